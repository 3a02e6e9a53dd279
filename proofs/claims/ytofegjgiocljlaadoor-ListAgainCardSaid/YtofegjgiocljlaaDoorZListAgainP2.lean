import Derived.Test.YtofegjgiocljlaaDoorZListAgainP1
section
namespace Go.Proofs.YtofegjgiocljlaaDoor.Ps
open Go.RowKit Go.Proofs.YtofegjgiocljlaaDoorH Go.Proofs.YtofegjgiocljlaaDoorW.PrintWords Go.Proofs.YtofegjgiocljlaaDoorW.PrintLast Go.Proofs.YtofegjgiocljlaaDoorW.PrintMore
attribute [local go_sem] max2_int min2_int max_two min_two max_three min_three max_four min_four   -- for this text's walks alone
set_option linter.unusedVariables false
set_option linter.unusedSimpArgs false
def slices_Index_int_int.l0 : Nat → List Int → Int → Int → Int → Option (Int)
  | 0, _, _, _, _ => none
  | k + 1, x0, x1, x7, x8 => if x8 < x7 then (if 0 ≤ x8 then (if x8 < (x0.length : Int) then (if x1 = (rd x0 x8) then (some x8) else (slices_Index_int_int.l0 k x0 x1 x7 (wrap64 (x8 + 1)))) else (none)) else (none)) else (some (-1))
def slices_Index_int_int.f (k : Nat) (l0 : List Int) (a1 : Int) : Option (Int) := slices_Index_int_int.l0 k l0 a1 (l0.length : Int) 0
theorem slices_Index_int_int.mono_l : ∀ k, (∀ y0 y1 y2 y3, LeO (slices_Index_int_int.l0 k y0 y1 y2 y3) (slices_Index_int_int.l0 (k + 1) y0 y1 y2 y3))
  | 0 => fun _ _ _ _ r h => by simp [slices_Index_int_int.l0] at h
  | k + 1 => by
    have ih0 := slices_Index_int_int.mono_l k
    · intro y0 y1 y2 y3
      unfold slices_Index_int_int.l0
      repeat' first
      | (with_reducible exact ih0 _ _ _ _)
      | (with_reducible exact LeO.refl _)
      | (with_reducible exact LeO.none _)
      | (with_reducible refine LeO.ite ?_ ?_)
      | (with_reducible refine LeO.bind ?_ (fun _ => ?_))
      | exact ih0 _ _ _ _
      | exact LeO.none _
      | refine LeO.ite ?_ ?_
      | refine LeO.bind ?_ (fun _ => ?_)
theorem slices_Index_int_int.mono : ∀ a0 a1 k, LeO (slices_Index_int_int.f k a0 a1) (slices_Index_int_int.f (k + 1) a0 a1) := by
  intro a0 a1 k
  have ih0 := slices_Index_int_int.mono_l k
  unfold slices_Index_int_int.f
  repeat' first
      | (with_reducible exact ih0 _ _ _ _)
      | (with_reducible exact LeO.refl _)
      | (with_reducible exact LeO.none _)
      | (with_reducible refine LeO.ite ?_ ?_)
      | (with_reducible refine LeO.bind ?_ (fun _ => ?_))
      | exact ih0 _ _ _ _
      | exact LeO.none _
      | refine LeO.ite ?_ ?_
      | refine LeO.bind ?_ (fun _ => ?_)
set_option maxHeartbeats 8000000 in
set_option maxRecDepth 100000 in
theorem slices_Index_int_int.calls (k : Nat) (A0 : Option Addr) (c0 : Nat) (l0 : List Int) (a1 : Int) (r : Int) (w : World) (hr0 : Kd.C (Kd.int .i64) w A0 l0.length l0) (hc0 : l0.length ≤ c0) (hG : TabOk w) (h : slices_Index_int_int.f k l0 a1 = some r) :
    Calls Tryd.prog 67 #[.slice A0 l0.length c0, .int .i64 a1] w fun e w' => e = .returned (.int .i64 r) ∧ Drawn0 w w' := by
  have HR0 := Aside0.mk hr0
  have HC0 := Aside0.mk hc0
  clear hr0 hc0
  have H : (slices_Index_int_int.l0 k l0 a1 (l0.length : Int) 0) = some r := h
  clear h
  have H' := Aside0.mk H
  clear H
  go_enter Tryd.func67, Tryd.ntmps67
  go_wp2
  go_loopg [8] k (fun kq v8 w' => ∃ (x8_1 : Int), v8 = .int .i64 x8_1 ∧ Aside0 (slices_Index_int_int.l0 kq l0 a1 (l0.length : Int) x8_1 = some r) ∧ Aside0 (kq ≤ k) ∧ Drawn0 w w')
  case atStart => exact ⟨(0), (by first | rfl | (simp; done) | (simp [*]; done)), H', ⟨Nat.le_refl _⟩, by repeat (first | exact Drawn0.refl _ | apply Drawn0.step)⟩
  case round =>
    clear H'
    try clear p2
    obtain ⟨x8_1, rfl, HA, HK1, ⟨m1, rfl⟩⟩ := hrel
    cases gk with
    | zero => exact absurd HA.out (by simp [slices_Index_int_int.l0])
    | succ k1 =>
      have H := HA.out
      clear HA
      simp only [slices_Index_int_int.l0] at H
      by_cases c3 : x8_1 < (l0.length : Int)
      · rw [if_pos c3] at H
        have c3b0 : decide (x8_1 < (l0.length : Int)) = true := decide_eq_true c3
        clear c3
        by_cases c4 : 0 ≤ x8_1
        · rw [if_pos c4] at H
          have c4b0 : decide (0 ≤ x8_1) = true := decide_eq_true c4
          clear c4
          by_cases c5 : x8_1 < (l0.length : Int)
          · rw [if_pos c5] at H
            have c5b0 : decide (x8_1 < (l0.length : Int)) = true := decide_eq_true c5
            clear c5
            by_cases c6 : a1 = (rd l0 x8_1)
            · rw [if_pos c6] at H
              have c6b0 : (a1 == (rd l0 x8_1)) = true := beq_iff_eq.mpr c6
              have c6b1 : (a1 != (rd l0 x8_1)) = false := bne_eq_false_iff_eq.mpr c6
              clear c6
              obtain rfl := Option.some.inj H
              have p101 : 0 ≤ (x8_1 : Int) := of_decide_eq_true (by first | (with_reducible assumption) | assumption)
              have q101 : x8_1 < (l0.length : Int) := of_decide_eq_true (by first | (with_reducible assumption) | assumption)
              obtain ⟨ad101, e101, hx101_0⟩ := Kd.at_int HR0.out x8_1 p101 q101
              cases e101
              replace p101 := eq_true p101
              replace q101 := eq_true q101
              go_wp2
              go_ret
              exact ⟨by first | rfl | (simp; done) | (simp [*]; done), by repeat (first | exact Drawn0.refl _ | apply Drawn0.step)⟩
            · rw [if_neg c6] at H
              have c6b0 : (a1 == (rd l0 x8_1)) = false := beq_eq_false_iff_ne.mpr c6
              have c6b1 : (a1 != (rd l0 x8_1)) = true := bne_iff_ne.mpr c6
              have H' := Aside0.mk H
              clear H
              have p101 : 0 ≤ (x8_1 : Int) := of_decide_eq_true (by first | (with_reducible assumption) | assumption)
              have q101 : x8_1 < (l0.length : Int) := of_decide_eq_true (by first | (with_reducible assumption) | assumption)
              obtain ⟨ad101, e101, hx101_0⟩ := Kd.at_int HR0.out x8_1 p101 q101
              cases e101
              replace p101 := eq_true p101
              replace q101 := eq_true q101
              go_wp2
              go_roundg k1
              case measure => have := HK1.out; omega
              case rel => exact ⟨(wrap64 (x8_1 + 1)), (by first | rfl | (simp; done) | (simp [*]; done)), H', ⟨by have := HK1.out; omega⟩, by repeat (first | exact Drawn0.refl _ | apply Drawn0.step)⟩
          · rw [if_neg c5] at H
            exact absurd H (by simp)
        · rw [if_neg c4] at H
          exact absurd H (by simp)
      · rw [if_neg c3] at H
        have c3b0 : decide (x8_1 < (l0.length : Int)) = false := decide_eq_false c3
        clear c3
        obtain rfl := Option.some.inj H
        go_wp2
        go_ret
        exact ⟨by first | rfl | (simp; done) | (simp [*]; done), by repeat (first | exact Drawn0.refl _ | apply Drawn0.step)⟩
def slices_Contains_int_int.f (k : Nat) (l0 : List Int) (a1 : Int) : Option (Bool) := (slices_Index_int_int.f k l0 a1).bind fun t102 => (some (decide (t102 ≥ 0)))
theorem slices_Contains_int_int.mono : ∀ a0 a1 k, LeO (slices_Contains_int_int.f k a0 a1) (slices_Contains_int_int.f (k + 1) a0 a1) := by
  intro a0 a1 k
  unfold slices_Contains_int_int.f
  repeat' first
      | (with_reducible exact slices_Index_int_int.mono _ _ _)
      | (with_reducible exact LeO.refl _)
      | (with_reducible exact LeO.none _)
      | (with_reducible refine LeO.ite ?_ ?_)
      | (with_reducible refine LeO.bind ?_ (fun _ => ?_))
      | exact slices_Index_int_int.mono _ _ _
      | exact LeO.none _
      | refine LeO.ite ?_ ?_
      | refine LeO.bind ?_ (fun _ => ?_)
set_option maxHeartbeats 8000000 in
set_option maxRecDepth 100000 in
theorem slices_Contains_int_int.calls (k : Nat) (A0 : Option Addr) (c0 : Nat) (l0 : List Int) (a1 : Int) (r : Bool) (w : World) (hr0 : Kd.C (Kd.int .i64) w A0 l0.length l0) (hc0 : l0.length ≤ c0) (hG : TabOk w) (h : slices_Contains_int_int.f k l0 a1 = some r) :
    Calls Tryd.prog 43 #[.slice A0 l0.length c0, .int .i64 a1] w fun e w' => e = .returned (.bool r) ∧ Drawn0 w w' := by
  have HR0 := Aside0.mk hr0
  have HC0 := Aside0.mk hc0
  clear hr0 hc0
  have H : ((slices_Index_int_int.f k l0 a1).bind fun t102 => (some (decide (t102 ≥ 0)))) = some r := h
  clear h
  replace H := Option.bind_eq_some_iff.mp H
  obtain ⟨t102, A30, H⟩ := H
  replace H : (some (decide (t102 ≥ 0))) = some r := H
  have A3 := Aside0.mk A30
  clear A30
  obtain rfl := Option.some.inj H
  go_enter Tryd.func43, Tryd.ntmps43
  go_wp2_with (first | ((with_reducible refine gate_callee (f := 67) rfl ?_); refine goesL_ (some 7) rfl rfl Tryd.func67 (by kernel_rfl) rfl #[.slice A0 l0.length c0, .int .i64 a1] rfl (by (try simp only [List.map_toArray, List.map_cons, List.map_nil]); first | done | rfl | (simp only [List.length_drop, List.length_take]; rfl)) ?_; (with_reducible refine (slices_Index_int_int.calls k _ _ l0 a1 t102 _ ?side1 ?side2 ?side3 A3.out).mono ?_); (case side1 => repeat (first | exact HR0.out | (with_reducible refine Kd.C_alloc ?_ _) | (with_reducible refine Kd.C_drewN ?_ _) | (with_reducible refine Kd.C_drew ?_))); (case side2 => exact HC0.out); (case side3 => first | exact hG | exact TabOk.drewN hG _ | exact TabOk.drewN (TabOk.drewN hG _) _ | exact TabOk.below hG (by repeat (first | (with_reducible first | exact HB.out | apply below_alloc | apply pw_below_drewN | apply below_drew1) | exact HB.out))); rintro e w' ⟨rfl, ⟨nd, rfl⟩⟩; refine ⟨_, rfl, ?_⟩))
  go_ret
  exact ⟨by first | rfl | (simp; done) | (simp [*]; done), by repeat (first | exact Drawn0.refl _ | apply Drawn0.step)⟩
def list_word.f (a0 : ByteArray) : Option (ByteArray) := (strings_Cut.f a0 (⟨#[59]⟩ : ByteArray)).bind fun bt103 => ((octet_Trim.f bt103.1).bind fun t106 => (some t106))
set_option maxHeartbeats 8000000 in
set_option maxRecDepth 100000 in
theorem list_word.calls (a0 : ByteArray) (r : ByteArray) (w : World) (hG : TabOk w) (h : list_word.f a0 = some r) :
    Calls Tryd.prog 46 #[.string a0] w fun e w' => e = .returned (.string r) ∧ Below w.heap.size w w' := by
  have HB := Aside0.mk (Below.refl w.heap.size w)
  have H : ((strings_Cut.f a0 (⟨#[59]⟩ : ByteArray)).bind fun bt103 => ((octet_Trim.f bt103.1).bind fun t106 => (some t106))) = some r := h
  clear h
  replace H := Option.bind_eq_some_iff.mp H
  obtain ⟨⟨t103, t104, t105⟩, A20, H⟩ := H
  replace H : ((octet_Trim.f t103).bind fun t106 => (some t106)) = some r := H
  have A2 := Aside0.mk A20
  clear A20
  replace H := Option.bind_eq_some_iff.mp H
  obtain ⟨t106, A30, H⟩ := H
  replace H : (some t106) = some r := H
  have A3 := Aside0.mk A30
  clear A30
  obtain rfl := Option.some.inj H
  go_enter Tryd.func46, Tryd.ntmps46
  go_wp2_with (first | ((with_reducible refine gate_callee (f := 68) rfl ?_); refine goesL_ (some 8) rfl rfl Tryd.func68 (by kernel_rfl) rfl #[.string a0, .string (⟨#[59]⟩ : ByteArray)] rfl (by (try simp only [List.map_toArray, List.map_cons, List.map_nil]); first | done | rfl | (simp only [List.length_drop, List.length_take]; rfl)) ?_; (with_reducible refine (strings_Cut.calls a0 (⟨#[59]⟩ : ByteArray) t103 t104 t105 _ ?side1 A2.out).mono ?_); (case side1 => first | exact hG | exact TabOk.drewN hG _ | exact TabOk.drewN (TabOk.drewN hG _) _ | exact TabOk.below hG (by repeat (first | (with_reducible first | exact HB.out | apply below_alloc | apply pw_below_drewN | apply below_drew1) | exact HB.out))); rintro e w4 ⟨rfl, hb⟩; refine ⟨_, rfl, ?_⟩; have n0_ := Aside0.mk (below_step (by repeat (first | (with_reducible first | exact HB.out | apply below_alloc | apply pw_below_drewN | apply below_drew1) | exact HB.out)) hb); clear HB; have HB := n0_; clear n0_; (try clear hb); (try clear hb2); (try clear hk); (try clear hi)) | ((with_reducible refine gate_callee (f := 66) rfl ?_); refine goesL_ (some 13) rfl rfl Tryd.func66 (by kernel_rfl) rfl #[.string t103] rfl (by (try simp only [List.map_toArray, List.map_cons, List.map_nil]); first | done | rfl | (simp only [List.length_drop, List.length_take]; rfl)) ?_; (with_reducible refine (octet_Trim.calls t103 t106 _ ?side1 A3.out).mono ?_); (case side1 => first | exact hG | exact TabOk.drewN hG _ | exact TabOk.drewN (TabOk.drewN hG _) _ | exact TabOk.below hG (by repeat (first | (with_reducible first | exact HB.out | apply below_alloc | apply pw_below_drewN | apply below_drew1) | exact HB.out))); rintro e w5 ⟨rfl, hb⟩; refine ⟨_, rfl, ?_⟩; have n0_ := Aside0.mk (below_step (by repeat (first | (with_reducible first | exact HB.out | apply below_alloc | apply pw_below_drewN | apply below_drew1) | exact HB.out)) hb); clear HB; have HB := n0_; clear n0_; (try clear hb); (try clear hb2); (try clear hk); (try clear hi)))
  go_ret
  exact ⟨by first | rfl | (simp [errW_none, errW_some] <;> rfl) | (simp [*, errW_none, errW_some] <;> rfl), by repeat (first | (with_reducible first | exact HB.out | apply below_alloc | apply pw_below_drewN | apply below_drew1) | exact HB.out)⟩
end Go.Proofs.YtofegjgiocljlaaDoor.Ps
end
section
namespace Go.Proofs.YtofegjgiocljlaaDoorH
open Go.RowKit Go.Shelf Go.Proofs.YtofegjgiocljlaaDoorW.PrintWords Go.Proofs.YtofegjgiocljlaaDoorW.PrintLast Go.Proofs.YtofegjgiocljlaaDoorW.PrintMore Go.Proofs.YtofegjgiocljlaaDoor.Ps
attribute [local go_sem] Oper.semAt_some
def sumS (l : List ByteArray) : Nat := (l.map fun x => x.size + 1).sum
theorem sumS_cons (x : ByteArray) (l : List ByteArray) : sumS (x :: l) = (x.size + 1) + sumS l := by simp [sumS]
theorem sumS_length : ∀ l : List ByteArray, l.length ≤ sumS l
  | [] => Nat.le_refl _
  | x :: l => by
    have := sumS_length l
    rw [sumS_cons, List.length_cons]
    omega
theorem sumS_at : ∀ (l : List ByteArray) (x : ByteArray), x ∈ l → x.size + 1 ≤ sumS l
  | y :: l, x, h => by
    rw [sumS_cons]
    rcases List.mem_cons.1 h with rfl | h
    · omega
    · have := sumS_at l x h
      omega
theorem itemsP_length (s : ByteArray) : (itemsP s).length ≤ s.size + 1 := by
  unfold itemsP
  exact Nat.le_trans (List.length_filter_le _ _) (by rw [List.length_map]; exact partsB_length s)
theorem itemsP_size (s : ByteArray) : ∀ y ∈ itemsP s, y.size ≤ s.size := by
  intro y hy
  unfold itemsP at hy
  obtain ⟨p, hp, rfl⟩ := List.mem_map.1 (List.mem_filter.1 hy).1
  exact Nat.le_trans (trimS_size p) (partsB_size s p hp)
theorem itemsF_length : ∀ (l : List ByteArray) (i : Nat), (itemsF i l).length ≤ sumS l
  | [], _ => Nat.zero_le _
  | v :: l, i => by
    have h1 := itemsF_length l (i + 1)
    have h2 := itemsP_length v
    rw [itemsF, sumS_cons, List.length_append, List.length_map]
    omega
theorem itemsF_mem : ∀ (l : List ByteArray) (i : Nat) (y : Nat × ByteArray), y ∈ itemsF i l → i ≤ y.1 ∧ y.1 < i + l.length ∧ y.2.size ≤ sumS l
  | [], _, y, h => absurd h List.not_mem_nil
  | v :: l, i, y, h => by
    rw [itemsF] at h
    rw [sumS_cons, List.length_cons]
    rcases List.mem_append.1 h with h | h
    · obtain ⟨z, hz, rfl⟩ := List.mem_map.1 h
      have := itemsP_size v z hz
      exact ⟨Nat.le_refl _, by omega, by show z.size ≤ _; omega⟩
    · have := itemsF_mem l (i + 1) y h
      omega
theorem infoStr : (Tryd.prog.info? 9).map (fun i => (i.zero, i.size, i.bytes)) = some (some (.string ⟨#[]⟩), 1, 16) := by kernel_rfl
def strV (l : List ByteArray) : List Value := l.map Value.string
theorem strV_flat (l : List ByteArray) : l.flatMap (fun x => [Value.string x]) = strV l := by
  induction l with
  | nil => rfl
  | cons x l ih => rw [List.flatMap_cons, ih]; rfl
def itemsL (l : List ByteArray) : List ByteArray := (itemsF 0 l).map fun y => y.2
def snds (l : List (Nat × ByteArray)) : List ByteArray := l.map fun y => y.2
theorem row_strs {w : World} {base : Nat} {v : Value} {l : List ByteArray} (h : w.ownsRow base 9 1 v l.length (strV l)) : Kd.R Kd.string 9 w base (fun _ => True) v l :=
  row_of_owns Kd.string (fun x => [Value.string x]) (fun _ => rfl) (fun _ _ => rfl) (by rw [strV_flat]; exact h)
def cutL (c : UInt8) (s : ByteArray) : ByteArray := ⟨(Lib.cut s.data.toList [c]).1.toArray⟩
def wordS (s : ByteArray) : ByteArray := trimS (cutL 59 s)
theorem cutL_size (c : UInt8) (s : ByteArray) : (cutL c s).size ≤ s.size := by
  show (Lib.cut s.data.toList [c]).1.length ≤ _
  rw [size_eq_length]
  unfold Lib.cut
  split
  · rw [List.length_take]; omega
  · exact Nat.le_refl _
theorem wordS_size (s : ByteArray) : (wordS s).size ≤ s.size := Nat.le_trans (trimS_size _) (cutL_size _ _)
theorem list_word_eq (s : ByteArray) (hs : s.size < 4294967281) : list_word.f s = some (wordS s) := by
  unfold list_word.f strings_Cut.f octet_Trim.f
  rw [if_pos hs, Option.bind_some]
  have h := cutL_size 59 s
  have h2 : (cutL 59 s).size ≤ 140737488355328 := by omega
  show ((if (cutL 59 s).size ≤ 140737488355328 then some (trimS (cutL 59 s)) else none).bind fun t => some t) = some (wordS s)
  rw [if_pos h2]
  rfl
theorem word_calls (s : ByteArray) (w : World) (hs : s.size < 4294967281) (hG : TabOk w) :
    Calls Tryd.prog 46 #[.string s] w fun e w' => e = .returned (.string (wordS s)) ∧ Below w.heap.size w w' := list_word.calls s (wordS s) w hG (list_word_eq s hs)
def hasB (l : List ByteArray) (n : ByteArray) : Bool := l.any fun y => alikeB (wordS y) n
end Go.Proofs.YtofegjgiocljlaaDoorH
end
section
namespace Go.Proofs.YtofegjgiocljlaaDoorH
open Go.RowKit Go.Shelf Go.Proofs.YtofegjgiocljlaaDoorW.PrintWords Go.Proofs.YtofegjgiocljlaaDoorW.PrintLast Go.Proofs.YtofegjgiocljlaaDoorW.PrintMore Go.Proofs.YtofegjgiocljlaaDoor.Ps
attribute [local go_sem] Oper.semAt_some
theorem results_cells2 {fn : Func} {p q : Tmp} {t u : TypeId} (h : fn.results = #[.cell p t, .cell q u]) (tmps : Array Value) (P : Program) (w : World) (a b : Addr) (v x : Value)
    (hp : tmps.getD p undef = .pointer (some a)) (hA : (isAgg t).run P w = .ok false w) (hc : w.cell? a = some v) (hq : tmps.getD q undef = .pointer (some b)) (hB : (isAgg u).run P w = .ok false w) (hd : w.cell? b = some x) : (results fn tmps).run P w = .ok (.tuple #[v, x]) w := by
  rw [Array.getD_eq_getD_getElem?] at hp hq
  simp only [results, h]
  simp [Sem.run_bind, Result.andThen, hp, hq, loadVar, hA, hB, asAddr, go_sem, hc, hd]
def codeS (y : ByteArray) : ByteArray := smallS (wordS y)
def codesL (l : List ByteArray) : List ByteArray := l.map codeS
def badW (l : List ByteArray) : Bool := l.any fun y => !(tokB (wordS y))
theorem badW_snoc (l : List ByteArray) (y : ByteArray) : badW (l ++ [y]) = (badW l || !(tokB (wordS y))) := by
  unfold badW
  rw [List.any_append]
  simp
def codR (xs : List ByteArray) : List ByteArray × Int :=
  if xs.length = 0 then ([], 7) else if badW (itemsL xs) = true then ([], 2) else if (itemsL xs).length = 0 then ([], 2) else (codesL (itemsL xs), 0)
set_option maxRecDepth 100000 in
set_option maxHeartbeats 2000000 in
theorem Codings_in (n : Nat) (hn : 7 ≤ n) (A0 : Option Addr) (c0 : Nat) (xs : List ByteArray) (hS : sumS xs ≤ 1000000) (hc0 : xs.length ≤ c0) (w : World) (hG : TabOk w) (hr : Kd.C Kd.string w A0 xs.length xs) :
    CallsIn Fence.wide n Tryd.prog 31 #[.slice A0 xs.length c0] w fun e w' => ∃ (v : Value) (l : List ByteArray) (er : Int), e = .returned (.tuple #[v, .int .i64 er]) ∧ codR xs = (l, er) ∧ Kd.R Kd.string 9 w' w.heap.size (fun _ => True) v l ∧ Below w.heap.size w w' := by
  have h1 : 1 ≤ n := by omega
  have hlen := sumS_length xs
  have bA : ∀ W : World, (isAgg 40).run Tryd.prog W = .ok false W := run_isAgg_plain Tryd.underlying40 rfl
  have bB : ∀ W : World, (isAgg 49).run Tryd.prog W = .ok false W := run_isAgg_plain Tryd.underlying49 rfl
  refine callsIn_of_wp_marks Tryd.func31 rfl trivial ?_ rfl
  simp only [Tryd.ntmps31, List.size_toArray, List.length_cons, List.length_nil, Nat.reduceAdd, Nat.reduceSub, Array.replicate_succ, Array.replicate_zero, List.push_toArray, List.append_toArray, List.nil_append, List.cons_append]
  by_cases hx0 : xs.length = 0
  · have hz : (xs.length : Int) = 0 := by omega
    have hz2 : ((xs.length : Int) == 0) = true := by rw [hz]; rfl
    have e1 := Aside0.mk (show codR xs = ([], 7) by unfold codR; rw [if_pos hx0])
    have b1 : Boxed ((w.alloc (.cells #[.slice none 0 0] 40)).alloc (.cells #[.int .i64 7] 49)) w.heap.size 40 (.slice none 0 0) := (Boxed.new w _ _).alloc _
    have b2 : Boxed ((w.alloc (.cells #[.slice none 0 0] 40)).alloc (.cells #[.int .i64 7] 49)) (w.heap.size + 1) 49 (.int .i64 7) := by
      have := Boxed.new (w.alloc (.cells #[.slice none 0 0] 40)) 49 (.int .i64 7)
      rwa [World.size_alloc] at this
    have B1 := Aside0.mk b1
    have B2 := Aside0.mk b2
    clear b1 b2
    gi_wp2
    refine ⟨_, results_cells2 rfl _ _ _ ⟨w.heap.size, 0, none⟩ ⟨w.heap.size + 1, 0, none⟩ (.slice none 0 0) (.int .i64 7) rfl (bA _) B1.out.cell rfl (bB _) B2.out.cell, ?_⟩
    exact ⟨_, [], 7, rfl, e1.out, Kd.R_nil _ _ _ _ _, below_alloc (below_alloc (Below.refl _ _) _) _⟩
  · have hz : ¬ (xs.length : Int) = 0 := by omega
    have HIT := Aside0.mk (items_calls A0 xs.length c0 (((w.alloc (.cells #[.slice none 0 0] 40)).alloc (.cells #[.int .i64 0] 49)).alloc (.cells #[.slice none 0 0] 40)))
    gi_wp2
    refine ⟨trivial, ?_⟩
    refine (callsIn_wide.2 HIT.out).mono ?_
    rintro e w2 ⟨rfl, rfl⟩
    clear HIT
    gi_wp2
    have HB2 := Aside0.mk (show Below w.heap.size w ((((w.alloc (.cells #[.slice none 0 0] 40)).alloc (.cells #[.int .i64 0] 49)).alloc (.cells #[.slice none 0 0] 40)).alloc (.cells #[.slice A0 xs.length c0] 40)) from below_alloc (below_alloc (below_alloc (below_alloc (Below.refl _ _) _) _) _) _)
    have HR1 := Aside0.mk (show Boxed ((((w.alloc (.cells #[.slice none 0 0] 40)).alloc (.cells #[.int .i64 0] 49)).alloc (.cells #[.slice none 0 0] 40)).alloc (.cells #[.slice A0 xs.length c0] 40)) w.heap.size 40 (.slice none 0 0) from (((Boxed.new w _ _).alloc _).alloc _).alloc _)
    have HR2 := Aside0.mk (show Boxed ((((w.alloc (.cells #[.slice none 0 0] 40)).alloc (.cells #[.int .i64 0] 49)).alloc (.cells #[.slice none 0 0] 40)).alloc (.cells #[.slice A0 xs.length c0] 40)) (w.heap.size + 1) 49 (.int .i64 0) by
      have := Boxed.new (w.alloc (.cells #[.slice none 0 0] 40)) 49 (.int .i64 0)
      rw [World.size_alloc] at this
      exact (this.alloc _).alloc _)
    have HBo := Aside0.mk (show Boxed ((((w.alloc (.cells #[.slice none 0 0] 40)).alloc (.cells #[.int .i64 0] 49)).alloc (.cells #[.slice none 0 0] 40)).alloc (.cells #[.slice A0 xs.length c0] 40)) (w.heap.size + 1 + 1) 40 (.slice none 0 0) by
      have := Boxed.new ((w.alloc (.cells #[.slice none 0 0] 40)).alloc (.cells #[.int .i64 0] 49)) 40 (.slice none 0 0)
      rw [World.size_alloc, World.size_alloc] at this
      exact this.alloc _)
    have HBv := Aside0.mk (show Boxed ((((w.alloc (.cells #[.slice none 0 0] 40)).alloc (.cells #[.int .i64 0] 49)).alloc (.cells #[.slice none 0 0] 40)).alloc (.cells #[.slice A0 xs.length c0] 40)) (w.heap.size + 1 + 1 + 1) 40 (.slice A0 xs.length c0) by
      have := Boxed.new (((w.alloc (.cells #[.slice none 0 0] 40)).alloc (.cells #[.int .i64 0] 49)).alloc (.cells #[.slice none 0 0] 40)) 40 (.slice A0 xs.length c0)
      rwa [World.size_alloc, World.size_alloc, World.size_alloc] at this)
    have s2 : ((((w.alloc (.cells #[.slice none 0 0] 40)).alloc (.cells #[.int .i64 0] 49)).alloc (.cells #[.slice none 0 0] 40)).alloc (.cells #[.slice A0 xs.length c0] 40)).heap.size = w.heap.size + 4 := by simp only [World.size_alloc]
    generalize ((((w.alloc (.cells #[.slice none 0 0] 40)).alloc (.cells #[.int .i64 0] 49)).alloc (.cells #[.slice none 0 0] 40)).alloc (.cells #[.slice A0 xs.length c0] 40)) = w2 at *
    have HSQ := Aside0.mk (items_own (n - 1) (by omega) (w.heap.size + 1 + 1 + 1) A0 c0 xs (fun x hx => by have := sumS_at xs x hx; omega) hc0 (by omega) w hG hr w2 (Lies.below HB2.out) HBv.out (by omega))
    have HMM := Aside0.mk (itemsF_mem xs 0)
    have HLL := Aside0.mk (itemsF_length xs 0)
    refine wpIn_range_own (F := Fence.wide) rfl rfl h1 (gf := 64) (lb := #[.pointer (some ⟨w.heap.size + 1 + 1 + 1, 0, none⟩)]) (by first | rfl | simp) trivial (enters_of Tryd.func64 (by kernel_rfl) rfl) HSQ.out (Below.refl _ _) (fun r h => h.elim)
      (by rintro r (h | rfl) <;> omega) (fun _ => rfl) none (fun q e => by cases e)
      (fun pre g W => ((∀ q, g = some q → w.heap.size + 6 ≤ q) ∧ ∃ v, v.ownBlock = g ∧ Boxed W (w.heap.size + 1 + 1) 40 v ∧ W.ownsRow w.heap.size 9 1 v pre.length (strV (codesL (snds pre)))) ∧ (Boxed W w.heap.size 40 (.slice none 0 0) ∧ (Boxed W (w.heap.size + 1) 49 (.int .i64 0) ∧ (Below w.heap.size w W ∧ badW (snds pre) = false))))
      (fun c pre g W => (∀ q, g = some q → w.heap.size + 6 ≤ q) ∧ (Boxed W w.heap.size 40 (.slice none 0 0) ∧ (Boxed W (w.heap.size + 1) 49 (.int .i64 2) ∧ (Below w.heap.size w W ∧ (c = .ret ∧ badW (snds pre) = true)))))
      (Abd.and (Abd.rowed (fun pre => pre.length) (fun pre => strV (codesL (snds pre))) _ (by omega) (by omega) (fun h => h) (fun r h => h.elim)) (Abd.and (Abd.block (fun _ => .cells #[.slice none 0 0] 40 (0, 0)) (by omega) (fun h => h)) (Abd.and (Abd.block (fun _ => .cells #[.int .i64 0] 49 (0, 0)) (by omega) (fun h => h)) (Abd.and (Abd.low (by omega) (Nat.le_refl _) (fun r h => h.elim)) (Abd.pure (β := List (Nat × ByteArray)) (fun pre _ => badW (snds pre) = false))))))
      (fun c => Abd.and (Abd.pure (β := List (Nat × ByteArray)) (fun _ g => ∀ q, g = some q → w.heap.size + 6 ≤ q)) (Abd.and (Abd.block (fun _ => .cells #[.slice none 0 0] 40 (0, 0)) (by omega) (fun h => h)) (Abd.and (Abd.block (fun _ => .cells #[.int .i64 2] 49 (0, 0)) (by omega) (fun h => h)) (Abd.and (Abd.low (by omega) (Nat.le_refl _) (fun r h => h.elim)) (Abd.pure (fun pre _ => c = .ret ∧ badW (snds pre) = true))))))
      ⟨⟨(fun q e => by cases e), _, rfl, HBo.out, World.ownsRow_nil _ _ _ _⟩, HR1.out, HR2.out, HB2.out, rfl⟩
      (fun pre g W q h e => .inr (by have := h.1.1 q e; omega)) (fun c pre g W q h e => .inr (by have := h.1 q e; omega))
      (fun x a' _ => a' = { tmps := #[Value.slice A0 xs.length c0, undef, Value.pointer (some { block := w.heap.size, off := 0 }), Value.pointer (some { block := w.heap.size + 1, off := 0 }), Value.pointer (some { block := w.heap.size + 1 + 1, off := 0 }), undef, Value.string x.2, undef,
        Value.slice A0 xs.length c0, Value.int IntKind.i64 (xs.length : Int), Value.bool false, Value.slice A0 xs.length c0, Value.func (Fn.func 64) #[] #[Value.pointer (some { block := w.heap.size + 1 + 1 + 1, off := 0 })],
        Value.int IntKind.i64 ((x.1 : Nat) : Int), Value.string x.2, undef, undef, undef, undef, undef, undef, undef, undef, undef, undef, undef, undef, undef, undef], defers := [] })
      (fun x a' _ _ _ _ _ h _ _ => h) ?assign ?body ?done ?stop
    case assign =>
      intro l pre x g W K hI hK
      dsimp only [encI]
      gi_wp2
      exact hK _ _ (Spares.refl _ _ _) hI rfl
    case body =>
      rintro l pre ⟨at', y⟩ g a' W hW2 ⟨⟨hgq, v, rfl, hbw, hrow⟩, hr1, hr2, hBW, hno⟩ rfl hsp
      have hyz : y.size ≤ sumS xs := (HMM.out (at', y) (hsp.subset (List.mem_append_right _ List.mem_cons_self))).2.2
      have hwz := wordS_size y
      have hpl : pre.length + 1 ≤ 1000000 := by
        have h1 := hsp.length_le
        have h2 := HLL.out
        rw [List.length_append, List.length_singleton] at h1
        omega
      have HWD := Aside0.mk (word_calls y W (by omega) (hG.below hBW))
      have HTK := Aside0.mk (fun W1 (hb : Below W.heap.size W W1) => token_calls (wordS y) W1 (by omega) (hG.below (hBW.trans (hb.mono hBW.size))))
      have HSM := Aside0.mk (fun W1 (hb : Below W.heap.size W W1) => small_calls (wordS y) W1 (by omega) (hG.below (hBW.trans (hb.mono hBW.size))))
      have HH := Aside0.mk (badW_snoc (snds pre) y)
      rw [hno, Bool.false_or] at HH
      have HGQ := Aside0.mk hgq
      have HROW := Aside0.mk hrow
      have HBW := Aside0.mk hBW
      have HBX := Aside0.mk hbw
      have HX1 := Aside0.mk hr1
      have HX2 := Aside0.mk hr2
      clear hgq hrow hBW hbw hsp hr1 hr2 hno
      gi_wp2
      refine ⟨trivial, (fun _ => by omega), ?_⟩
      refine (CallsIn.inRound l (callsIn_wide.2 HWD.out)).mono ?_
      rintro e w5 ⟨rfl, b5⟩
      have HB5 := Aside0.mk b5
      clear b5 HWD
      gi_wp2
      refine ⟨trivial, (fun _ => by omega), ?_⟩
      refine (CallsIn.inRound l (callsIn_wide.2 (HTK.out w5 HB5.out))).mono ?_
      rintro e w6 ⟨rfl, b6⟩
      have HB6 := Aside0.mk (HB5.out.trans (b6.mono HB5.out.size))
      have HY1 := Aside0.mk (show Boxed w6 w.heap.size 40 (.slice none 0 0) from (HB6.out.block _ HX1.out.lt).trans HX1.out)
      have HY2 := Aside0.mk (show Boxed w6 (w.heap.size + 1) 49 (.int .i64 0) from (HB6.out.block _ HX2.out.lt).trans HX2.out)
      have HYo := Aside0.mk (show Boxed w6 (w.heap.size + 1 + 1) 40 v from (HB6.out.block _ HBX.out.lt).trans HBX.out)
      have HYr := Aside0.mk (show w6.ownsRow w.heap.size 9 1 v pre.length (strV (codesL (snds pre))) from own_move HROW.out (fun k hk => HB6.out.block k (own_lt HROW.out k hk)))
      have HW6 := Aside0.mk (HBW.out.trans (HB6.out.mono HBW.out.size))
      clear b6 HTK
      cases ht : tokB (wordS y) with
      | false =>
        rw [ht] at HH
        clear ht
        have hc1 := HY1.out.cell
        have hf1 := HY1.out.frozen
        have hc2 := (HY2.out.kept (grownBy_setCell' w6 w.heap.size (.slice none 0 0)) (by simp)).cell
        have hf2 := (HY2.out.kept (grownBy_setCell' w6 w.heap.size (.slice none 0 0)) (by simp)).frozen
        gi_wp2
        refine ⟨v.ownBlock, ((Spares.below HB6.out).trans (Spares.turned (grownBy_setCell' w6 w.heap.size (.slice none 0 0)) (fun r e hk => by cases e; rcases hk with h | h | h <;> omega))).trans (Spares.turned (grownBy_setCell' _ (w.heap.size + 1) (.int .i64 2)) (fun r e hk => by cases e; rcases hk with h | h | h <;> omega)),
          HGQ.out, (HY1.out.set _).other (by omega) _, (HY2.out.other (by omega) _).set _, (HW6.out.setCell (p := ⟨w.heap.size, 0, none⟩) (Nat.le_refl _) _).setCell (p := ⟨w.heap.size + 1, 0, none⟩) (Nat.le_succ _) _, rfl, ?_⟩
        unfold snds at *
        rw [List.map_append]
        exact HH.out
      | true =>
        rw [ht] at HH
        clear ht
        have hmx : Tryd.prog.follows .mixedOrders = true := by kernel_rfl
        have hco := HYo.out.cell
        have hcd : w6.drew.cell? ⟨w.heap.size + 1 + 1, 0, none⟩ = some v := hco
        gi_wp2
        refine wpIn_region_any hmx ?_
        change wpAnyIn _ _ _ _ _ _ _ _ _ w6.drew
        refine wpAnyIn_ready (rs := [0, 1]) (by kernel_rfl) (by simp) ?_
        refine AllReadyIn.cons rfl (fun K hK => ?_) ?_
        ·
          go_simp
          refine hK _ _ ?_
          clear hK K
          refine wpAnyIn_ready (rs := [1]) (by kernel_rfl) (by simp) ?_
          refine AllReadyIn.cons rfl (fun K hK => ?_) ?_
          ·
            go_simp
            refine hK _ _ ?_
            clear hK K
            refine wpAnyIn_ready (rs := [2]) (by kernel_rfl) (by simp) ?_
            refine AllReadyIn.cons rfl (fun K hK => ?_) ?_
            ·
              go_simp
              refine ⟨trivial, (fun _ => by omega), ?_⟩
              refine (CallsIn.inRound l (callsIn_wide.2 (HSM.out w6.drew HB6.out.drew))).mono ?_
              rintro e w7 ⟨rfl, b7⟩
              have HB7 := Aside0.mk (((Below.refl w6.heap.size w6).drew).trans (b7.mono (Nat.le_refl _)))
              have HZ1 := Aside0.mk (show Boxed w7 w.heap.size 40 (.slice none 0 0) from (HB7.out.block _ HY1.out.lt).trans HY1.out)
              have HZ2 := Aside0.mk (show Boxed w7 (w.heap.size + 1) 49 (.int .i64 0) from (HB7.out.block _ HY2.out.lt).trans HY2.out)
              have HZo := Aside0.mk (show Boxed w7 (w.heap.size + 1 + 1) 40 v from (HB7.out.block _ HYo.out.lt).trans HYo.out)
              have HZr := Aside0.mk (show w7.ownsRow w.heap.size 9 1 v pre.length (strV (codesL (snds pre))) from own_move HYr.out (fun k hk => HB7.out.block k (own_lt HYr.out k hk)))
              have hc7 := HZo.out.cell
              have hc8 := (HZo.out.alloc (.cells #[.string (smallS (wordS y))] 9)).cell
              clear b7
              refine hK _ _ ?_
              clear hK K
              refine wpAnyIn_ready (rs := [3]) (by kernel_rfl) (by simp) ?_
              refine AllReadyIn.cons rfl (fun K hK => ?_) ?_
              ·
                go_simp
                refine hK _ _ ?_
                clear hK K
                refine wpAnyIn_ready (rs := [4]) (by kernel_rfl) (by simp) ?_
                refine AllReadyIn.cons rfl (fun K hK => ?_) ?_
                ·
                  refine any_append w.heap.size rfl _ _ 40 9 (.string ⟨#[]⟩) 1 16 rfl Tryd.underlying40 infoStr rfl (by decide) (by omega) v pre.length (strV (codesL (snds pre))) [.string (smallS (wordS y))] rfl ?hx rfl ?one HZr.out ?base ?lim ?_
                  case hx => rfl
                  case one =>
                    intro u hu
                    rcases List.mem_singleton.1 hu with rfl
                    rfl
                  case base => have := HW6.out.size; have := HB7.out.size; omega
                  case lim => omega
                  intro v1 w3 ho3 hg3 hat3
                  obtain ⟨g', cap', rfl⟩ := ownsRow_succ ho3
                  obtain ⟨hv1, hv2, hr2, hk2, hb2⟩ := collected (K := fun k => w2.heap.size ≤ k ∨ (k < w.heap.size ∨ k = w.heap.size + 1 + 1 + 1)) HZo.out (by decide) HZr.out (by omega) (Nat.le_add_right _ 2) ho3 hg3 hat3
                  have HE1 := Aside0.mk (collected_box (B := w.heap.size + 1 + 1) hg3 HZr.out HZ1.out (by decide) (by omega) (Value.slice (some { block := g', off := 0 }) (pre.length + 1) cap'))
                  have HE2 := Aside0.mk (collected_box (B := w.heap.size + 1 + 1) hg3 HZr.out HZ2.out (by decide) (by omega) (Value.slice (some { block := g', off := 0 }) (pre.length + 1) cap'))
                  have hc1 := hv1.cell
                  have hf1 := hv1.frozen
                  have HV2 := Aside0.mk hv2
                  have HRR := Aside0.mk hr2
                  have HK2 := Aside0.mk hk2
                  have HB3 := Aside0.mk hb2
                  clear hv1 hv2 hr2 hk2 hb2 ho3 hg3 hat3
                  refine hK _ _ ?_
                  clear hK K
                  refine wpAnyIn_ready (rs := [5]) (by kernel_rfl) (by simp) ?_
                  refine AllReadyIn.cons rfl (fun K hK => ?_) ?_
                  ·
                    go_simp
                    refine hK _ _ ?_
                    clear hK K
                    refine wpAnyIn_done (by kernel_rfl) ?_ _
                    gi_wp2
                    refine ⟨_, ((Spares.below HB6.out).trans (Spares.below HB7.out)).trans HK2.out, ⟨HK2.out.ge (n := w.heap.size + 6) (by have := HB6.out.size; have := HB7.out.size; omega) HGQ.out, _, rfl, HV2.out, ?_⟩, ?_, ?_, (HW6.out.trans (HB7.out.mono HW6.out.size)).trans HB3.out, ?_⟩
                    · rw [List.length_append]; unfold snds codesL strV at *; rw [List.map_append, List.map_append, List.map_append]; exact HRR.out
                    · exact HE1.out
                    · exact HE2.out
                    · unfold snds at *; rw [List.map_append]; exact HH.out
                  exact AllReadyIn.nil
                exact AllReadyIn.nil
              exact AllReadyIn.nil
            exact AllReadyIn.nil
          exact AllReadyIn.nil
        refine AllReadyIn.cons rfl (fun K hK => ?_) ?_
        ·
          go_simp
          refine hK _ _ ?_
          clear hK K
          refine wpAnyIn_ready (rs := [0, 2]) (by kernel_rfl) (by simp) ?_
          refine AllReadyIn.cons rfl (fun K hK => ?_) ?_
          ·
            go_simp
            refine hK _ _ ?_
            clear hK K
            refine wpAnyIn_ready (rs := [2]) (by kernel_rfl) (by simp) ?_
            refine AllReadyIn.cons rfl (fun K hK => ?_) ?_
            ·
              go_simp
              refine ⟨trivial, (fun _ => by omega), ?_⟩
              refine (CallsIn.inRound l (callsIn_wide.2 (HSM.out w6.drew HB6.out.drew))).mono ?_
              rintro e w7 ⟨rfl, b7⟩
              have HB7 := Aside0.mk (((Below.refl w6.heap.size w6).drew).trans (b7.mono (Nat.le_refl _)))
              have HZ1 := Aside0.mk (show Boxed w7 w.heap.size 40 (.slice none 0 0) from (HB7.out.block _ HY1.out.lt).trans HY1.out)
              have HZ2 := Aside0.mk (show Boxed w7 (w.heap.size + 1) 49 (.int .i64 0) from (HB7.out.block _ HY2.out.lt).trans HY2.out)
              have HZo := Aside0.mk (show Boxed w7 (w.heap.size + 1 + 1) 40 v from (HB7.out.block _ HYo.out.lt).trans HYo.out)
              have HZr := Aside0.mk (show w7.ownsRow w.heap.size 9 1 v pre.length (strV (codesL (snds pre))) from own_move HYr.out (fun k hk => HB7.out.block k (own_lt HYr.out k hk)))
              have hc7 := HZo.out.cell
              have hc8 := (HZo.out.alloc (.cells #[.string (smallS (wordS y))] 9)).cell
              clear b7
              refine hK _ _ ?_
              clear hK K
              refine wpAnyIn_ready (rs := [3]) (by kernel_rfl) (by simp) ?_
              refine AllReadyIn.cons rfl (fun K hK => ?_) ?_
              ·
                go_simp
                refine hK _ _ ?_
                clear hK K
                refine wpAnyIn_ready (rs := [4]) (by kernel_rfl) (by simp) ?_
                refine AllReadyIn.cons rfl (fun K hK => ?_) ?_
                ·
                  refine any_append w.heap.size rfl _ _ 40 9 (.string ⟨#[]⟩) 1 16 rfl Tryd.underlying40 infoStr rfl (by decide) (by omega) v pre.length (strV (codesL (snds pre))) [.string (smallS (wordS y))] rfl ?hx rfl ?one HZr.out ?base ?lim ?_
                  case hx => rfl
                  case one =>
                    intro u hu
                    rcases List.mem_singleton.1 hu with rfl
                    rfl
                  case base => have := HW6.out.size; have := HB7.out.size; omega
                  case lim => omega
                  intro v1 w3 ho3 hg3 hat3
                  obtain ⟨g', cap', rfl⟩ := ownsRow_succ ho3
                  obtain ⟨hv1, hv2, hr2, hk2, hb2⟩ := collected (K := fun k => w2.heap.size ≤ k ∨ (k < w.heap.size ∨ k = w.heap.size + 1 + 1 + 1)) HZo.out (by decide) HZr.out (by omega) (Nat.le_add_right _ 2) ho3 hg3 hat3
                  have HE1 := Aside0.mk (collected_box (B := w.heap.size + 1 + 1) hg3 HZr.out HZ1.out (by decide) (by omega) (Value.slice (some { block := g', off := 0 }) (pre.length + 1) cap'))
                  have HE2 := Aside0.mk (collected_box (B := w.heap.size + 1 + 1) hg3 HZr.out HZ2.out (by decide) (by omega) (Value.slice (some { block := g', off := 0 }) (pre.length + 1) cap'))
                  have hc1 := hv1.cell
                  have hf1 := hv1.frozen
                  have HV2 := Aside0.mk hv2
                  have HRR := Aside0.mk hr2
                  have HK2 := Aside0.mk hk2
                  have HB3 := Aside0.mk hb2
                  clear hv1 hv2 hr2 hk2 hb2 ho3 hg3 hat3
                  refine hK _ _ ?_
                  clear hK K
                  refine wpAnyIn_ready (rs := [5]) (by kernel_rfl) (by simp) ?_
                  refine AllReadyIn.cons rfl (fun K hK => ?_) ?_
                  ·
                    go_simp
                    refine hK _ _ ?_
                    clear hK K
                    refine wpAnyIn_done (by kernel_rfl) ?_ _
                    gi_wp2
                    refine ⟨_, ((Spares.below HB6.out).trans (Spares.below HB7.out)).trans HK2.out, ⟨HK2.out.ge (n := w.heap.size + 6) (by have := HB6.out.size; have := HB7.out.size; omega) HGQ.out, _, rfl, HV2.out, ?_⟩, ?_, ?_, (HW6.out.trans (HB7.out.mono HW6.out.size)).trans HB3.out, ?_⟩
                    · rw [List.length_append]; unfold snds codesL strV at *; rw [List.map_append, List.map_append, List.map_append]; exact HRR.out
                    · exact HE1.out
                    · exact HE2.out
                    · unfold snds at *; rw [List.map_append]; exact HH.out
                  exact AllReadyIn.nil
                exact AllReadyIn.nil
              exact AllReadyIn.nil
            exact AllReadyIn.nil
          refine AllReadyIn.cons rfl (fun K hK => ?_) ?_
          ·
            go_simp
            refine ⟨trivial, (fun _ => by omega), ?_⟩
            refine (CallsIn.inRound l (callsIn_wide.2 (HSM.out w6.drew HB6.out.drew))).mono ?_
            rintro e w7 ⟨rfl, b7⟩
            have HB7 := Aside0.mk (((Below.refl w6.heap.size w6).drew).trans (b7.mono (Nat.le_refl _)))
            have HZ1 := Aside0.mk (show Boxed w7 w.heap.size 40 (.slice none 0 0) from (HB7.out.block _ HY1.out.lt).trans HY1.out)
            have HZ2 := Aside0.mk (show Boxed w7 (w.heap.size + 1) 49 (.int .i64 0) from (HB7.out.block _ HY2.out.lt).trans HY2.out)
            have HZo := Aside0.mk (show Boxed w7 (w.heap.size + 1 + 1) 40 v from (HB7.out.block _ HYo.out.lt).trans HYo.out)
            have HZr := Aside0.mk (show w7.ownsRow w.heap.size 9 1 v pre.length (strV (codesL (snds pre))) from own_move HYr.out (fun k hk => HB7.out.block k (own_lt HYr.out k hk)))
            have hc7 := HZo.out.cell
            have hc8 := (HZo.out.alloc (.cells #[.string (smallS (wordS y))] 9)).cell
            clear b7
            refine hK _ _ ?_
            clear hK K
            refine wpAnyIn_ready (rs := [0, 3]) (by kernel_rfl) (by simp) ?_
            refine AllReadyIn.cons rfl (fun K hK => ?_) ?_
            ·
              go_simp
              refine hK _ _ ?_
              clear hK K
              refine wpAnyIn_ready (rs := [3]) (by kernel_rfl) (by simp) ?_
              refine AllReadyIn.cons rfl (fun K hK => ?_) ?_
              ·
                go_simp
                refine hK _ _ ?_
                clear hK K
                refine wpAnyIn_ready (rs := [4]) (by kernel_rfl) (by simp) ?_
                refine AllReadyIn.cons rfl (fun K hK => ?_) ?_
                ·
                  refine any_append w.heap.size rfl _ _ 40 9 (.string ⟨#[]⟩) 1 16 rfl Tryd.underlying40 infoStr rfl (by decide) (by omega) v pre.length (strV (codesL (snds pre))) [.string (smallS (wordS y))] rfl ?hx rfl ?one HZr.out ?base ?lim ?_
                  case hx => rfl
                  case one =>
                    intro u hu
                    rcases List.mem_singleton.1 hu with rfl
                    rfl
                  case base => have := HW6.out.size; have := HB7.out.size; omega
                  case lim => omega
                  intro v1 w3 ho3 hg3 hat3
                  obtain ⟨g', cap', rfl⟩ := ownsRow_succ ho3
                  obtain ⟨hv1, hv2, hr2, hk2, hb2⟩ := collected (K := fun k => w2.heap.size ≤ k ∨ (k < w.heap.size ∨ k = w.heap.size + 1 + 1 + 1)) HZo.out (by decide) HZr.out (by omega) (Nat.le_add_right _ 2) ho3 hg3 hat3
                  have HE1 := Aside0.mk (collected_box (B := w.heap.size + 1 + 1) hg3 HZr.out HZ1.out (by decide) (by omega) (Value.slice (some { block := g', off := 0 }) (pre.length + 1) cap'))
                  have HE2 := Aside0.mk (collected_box (B := w.heap.size + 1 + 1) hg3 HZr.out HZ2.out (by decide) (by omega) (Value.slice (some { block := g', off := 0 }) (pre.length + 1) cap'))
                  have hc1 := hv1.cell
                  have hf1 := hv1.frozen
                  have HV2 := Aside0.mk hv2
                  have HRR := Aside0.mk hr2
                  have HK2 := Aside0.mk hk2
                  have HB3 := Aside0.mk hb2
                  clear hv1 hv2 hr2 hk2 hb2 ho3 hg3 hat3
                  refine hK _ _ ?_
                  clear hK K
                  refine wpAnyIn_ready (rs := [5]) (by kernel_rfl) (by simp) ?_
                  refine AllReadyIn.cons rfl (fun K hK => ?_) ?_
                  ·
                    go_simp
                    refine hK _ _ ?_
                    clear hK K
                    refine wpAnyIn_done (by kernel_rfl) ?_ _
                    gi_wp2
                    refine ⟨_, ((Spares.below HB6.out).trans (Spares.below HB7.out)).trans HK2.out, ⟨HK2.out.ge (n := w.heap.size + 6) (by have := HB6.out.size; have := HB7.out.size; omega) HGQ.out, _, rfl, HV2.out, ?_⟩, ?_, ?_, (HW6.out.trans (HB7.out.mono HW6.out.size)).trans HB3.out, ?_⟩
                    · rw [List.length_append]; unfold snds codesL strV at *; rw [List.map_append, List.map_append, List.map_append]; exact HRR.out
                    · exact HE1.out
                    · exact HE2.out
                    · unfold snds at *; rw [List.map_append]; exact HH.out
                  exact AllReadyIn.nil
                exact AllReadyIn.nil
              exact AllReadyIn.nil
            refine AllReadyIn.cons rfl (fun K hK => ?_) ?_
            ·
              go_simp
              refine hK _ _ ?_
              clear hK K
              refine wpAnyIn_ready (rs := [0]) (by kernel_rfl) (by simp) ?_
              refine AllReadyIn.cons rfl (fun K hK => ?_) ?_
              ·
                go_simp
                refine hK _ _ ?_
                clear hK K
                refine wpAnyIn_ready (rs := [4]) (by kernel_rfl) (by simp) ?_
                refine AllReadyIn.cons rfl (fun K hK => ?_) ?_
                ·
                  refine any_append w.heap.size rfl _ _ 40 9 (.string ⟨#[]⟩) 1 16 rfl Tryd.underlying40 infoStr rfl (by decide) (by omega) v pre.length (strV (codesL (snds pre))) [.string (smallS (wordS y))] rfl ?hx rfl ?one HZr.out ?base ?lim ?_
                  case hx => rfl
                  case one =>
                    intro u hu
                    rcases List.mem_singleton.1 hu with rfl
                    rfl
                  case base => have := HW6.out.size; have := HB7.out.size; omega
                  case lim => omega
                  intro v1 w3 ho3 hg3 hat3
                  obtain ⟨g', cap', rfl⟩ := ownsRow_succ ho3
                  obtain ⟨hv1, hv2, hr2, hk2, hb2⟩ := collected (K := fun k => w2.heap.size ≤ k ∨ (k < w.heap.size ∨ k = w.heap.size + 1 + 1 + 1)) HZo.out (by decide) HZr.out (by omega) (Nat.le_add_right _ 2) ho3 hg3 hat3
                  have HE1 := Aside0.mk (collected_box (B := w.heap.size + 1 + 1) hg3 HZr.out HZ1.out (by decide) (by omega) (Value.slice (some { block := g', off := 0 }) (pre.length + 1) cap'))
                  have HE2 := Aside0.mk (collected_box (B := w.heap.size + 1 + 1) hg3 HZr.out HZ2.out (by decide) (by omega) (Value.slice (some { block := g', off := 0 }) (pre.length + 1) cap'))
                  have hc1 := hv1.cell
                  have hf1 := hv1.frozen
                  have HV2 := Aside0.mk hv2
                  have HRR := Aside0.mk hr2
                  have HK2 := Aside0.mk hk2
                  have HB3 := Aside0.mk hb2
                  clear hv1 hv2 hr2 hk2 hb2 ho3 hg3 hat3
                  refine hK _ _ ?_
                  clear hK K
                  refine wpAnyIn_ready (rs := [5]) (by kernel_rfl) (by simp) ?_
                  refine AllReadyIn.cons rfl (fun K hK => ?_) ?_
                  ·
                    go_simp
                    refine hK _ _ ?_
                    clear hK K
                    refine wpAnyIn_done (by kernel_rfl) ?_ _
                    gi_wp2
                    refine ⟨_, ((Spares.below HB6.out).trans (Spares.below HB7.out)).trans HK2.out, ⟨HK2.out.ge (n := w.heap.size + 6) (by have := HB6.out.size; have := HB7.out.size; omega) HGQ.out, _, rfl, HV2.out, ?_⟩, ?_, ?_, (HW6.out.trans (HB7.out.mono HW6.out.size)).trans HB3.out, ?_⟩
                    · rw [List.length_append]; unfold snds codesL strV at *; rw [List.map_append, List.map_append, List.map_append]; exact HRR.out
                    · exact HE1.out
                    · exact HE2.out
                    · unfold snds at *; rw [List.map_append]; exact HH.out
                  exact AllReadyIn.nil
                exact AllReadyIn.nil
              exact AllReadyIn.nil
            exact AllReadyIn.nil
          exact AllReadyIn.nil
        exact AllReadyIn.nil
    case done =>
      rintro D ys g W hD rfl ⟨⟨hgq, v, rfl, hbw, hrow⟩, hr1, hr2, hBW, hno⟩ hK
      obtain ⟨a0, c1, hv0, hcl1⟩ := owns_slice2 hrow
      subst hv0
      have hco := hbw.cell
      have hcc1 := hr1.cell
      have hff1 := hr1.frozen
      have hil : (itemsL xs).length = (itemsF 0 xs).length := by unfold itemsL; rw [List.length_map]
      by_cases hz0 : (itemsF 0 xs).length = 0
      · obtain ⟨q1, q2, q3, q4, _⟩ := closed2 (n₀ := w.heap.size) hr1 hr2 (by omega) (Nat.le_refl _) (by omega) (by omega) hK (.slice none 0 0) (.int .i64 2)
        have Q1 := Aside0.mk q1
        have Q2 := Aside0.mk q2
        have Q3 := Aside0.mk q3
        have Q4 := Aside0.mk (hBW.trans q4)
        have hcc2 := (hr2.other (by omega) (.slice none 0 0) : Boxed (W.setCell ⟨w.heap.size, 0, none⟩ (.slice none 0 0)) (w.heap.size + 1) 49 (.int .i64 0)).cell
        have hff2 := (hr2.other (by omega) (.slice none 0 0) : Boxed (W.setCell ⟨w.heap.size, 0, none⟩ (.slice none 0 0)) (w.heap.size + 1) 49 (.int .i64 0)).frozen
        have HE := Aside0.mk (show codR xs = ([], 2) by
          unfold codR
          rw [if_neg hx0, if_neg (by rw [show badW (itemsL xs) = false from hno]; decide), if_pos (by omega)])
        have hzi : ((itemsF 0 xs).length : Int) = 0 := by omega
        clear q1 q2 q3 q4 hrow hBW hbw hK hgq hno hil hr1 hr2
        gi_wp2
        refine ⟨by simp, .inl ⟨_, _, rfl, run_takeDeferred Q1.out, ?_⟩⟩
        refine ⟨_, results_cells2 rfl _ _ _ ⟨w.heap.size, 0, none⟩ ⟨w.heap.size + 1, 0, none⟩ (.slice none 0 0) (.int .i64 2) rfl (bA _) Q2.out.cell rfl (bB _) Q3.out.cell, ?_⟩
        exact ⟨_, [], 2, rfl, HE.out, Kd.R_nil _ _ _ _ _, Q4.out⟩
      · obtain ⟨q1, q2, q3, q4, q5⟩ := closed2 (n₀ := w.heap.size) hr1 hr2 (by omega) (Nat.le_refl _) (by omega) (by omega) hK (.slice a0 (itemsF 0 xs).length c1) (.int .i64 0)
        have Q1 := Aside0.mk q1
        have Q2 := Aside0.mk q2
        have Q3 := Aside0.mk q3
        have Q4 := Aside0.mk (hBW.trans q4)
        have Q5 := Aside0.mk (q5 (by decide) (by decide) hrow)
        have hcc2 := (hr2.other (by omega) (.slice a0 (itemsF 0 xs).length c1) : Boxed (W.setCell ⟨w.heap.size, 0, none⟩ (.slice a0 (itemsF 0 xs).length c1)) (w.heap.size + 1) 49 (.int .i64 0)).cell
        have hff2 := (hr2.other (by omega) (.slice a0 (itemsF 0 xs).length c1) : Boxed (W.setCell ⟨w.heap.size, 0, none⟩ (.slice a0 (itemsF 0 xs).length c1)) (w.heap.size + 1) 49 (.int .i64 0)).frozen
        have HE := Aside0.mk (show codR xs = (codesL (itemsL xs), 0) by
          unfold codR
          rw [if_neg hx0, if_neg (by rw [show badW (itemsL xs) = false from hno]; decide), if_neg (by omega)])
        have hzi : ¬ ((itemsF 0 xs).length : Int) = 0 := by omega
        clear q1 q2 q3 q4 q5 hrow hBW hbw hK hgq hno hil hr1 hr2
        gi_wp2
        refine ⟨by simp, .inl ⟨_, _, rfl, run_takeDeferred Q1.out, ?_⟩⟩
        refine ⟨_, results_cells2 rfl _ _ _ ⟨w.heap.size, 0, none⟩ ⟨w.heap.size + 1, 0, none⟩ (.slice a0 (itemsF 0 xs).length c1) (.int .i64 0) rfl (bA _) Q2.out.cell rfl (bB _) Q3.out.cell, ?_⟩
        refine ⟨_, codesL (itemsL xs), 0, rfl, HE.out, row_strs ?_, Q4.out⟩
        rw [show (codesL (itemsL xs)).length = (itemsF 0 xs).length by unfold codesL itemsL; rw [List.length_map, List.length_map]]
        exact Q5.out
    case stop =>
      rintro D c pre g W hD hsp ⟨hgq, hr1, hr2, hBW, rfl, hyes⟩ hK
      have HK := Aside0.mk hK
      have HB := Aside0.mk (hBW.grown (grownBy_putObj' W D (.deferred none)) hBW.size (fun k e => by cases e; omega))
      have HX1 := Aside0.mk (hr1.kept (grownBy_putObj' W D (.deferred none)) (fun h => by cases h; omega))
      have HX2 := Aside0.mk (hr2.kept (grownBy_putObj' W D (.deferred none)) (fun h => by cases h; omega))
      have HE := Aside0.mk (show codR xs = ([], 2) by
        obtain ⟨r, hr⟩ := hsp
        have hb : badW (itemsL xs) = true := by
          unfold itemsL
          rw [← hr, List.map_append]
          unfold badW at *
          rw [List.any_append]
          unfold snds at hyes
          rw [hyes, Bool.true_or]
        unfold codR
        rw [if_neg hx0, if_pos hb])
      clear hK hsp hyes
      gi_wp2
      refine ⟨by simp, .inl ⟨_, _, rfl, run_takeDeferred HK.out, ?_⟩⟩
      refine ⟨_, results_cells2 rfl _ _ _ ⟨w.heap.size, 0, none⟩ ⟨w.heap.size + 1, 0, none⟩ (.slice none 0 0) (.int .i64 2) rfl (bA _) HX1.out.cell rfl (bB _) HX2.out.cell, ?_⟩
      exact ⟨_, [], 2, rfl, HE.out, Kd.R_nil _ _ _ _ _, HB.out⟩
end Go.Proofs.YtofegjgiocljlaaDoorH
end
section
namespace Go.Proofs.YtofegjgiocljlaaDoorH
open Go.RowKit Go.Proofs.YtofegjgiocljlaaDoorW.PrintWords Go.Proofs.YtofegjgiocljlaaDoorW.PrintLast Go.Proofs.YtofegjgiocljlaaDoorW.PrintMore
def numL : Int → Bool → List UInt8 → Option (Int × Bool)
  | n, big, [] => some (n, big)
  | n, big, c :: l =>
    if (c.toNat : Int) < 48 ∨ 57 < (c.toNat : Int) then none
    else if big = true then numL n true l
    else if n > (4611686018427387903 - ((c.toNat : Int) - 48)) / 10 then numL n true l
    else numL (10 * n + ((c.toNat : Int) - 48)) false l
def numR (s : ByteArray) : Int × Int := match numL 0 false s.data.toList with
  | none => (0, 2)
  | some (n, big) => if s.size = 0 then (0, 2) else if big = true then (0, 3) else (n, 0)
theorem numR_none {s : ByteArray} (h : numL 0 false s.data.toList = none) : numR s = (0, 2) := by
  unfold numR
  rw [h]
theorem numR_some {s : ByteArray} {n : Int} {big : Bool} (h : numL 0 false s.data.toList = some (n, big)) : numR s = if s.size = 0 then (0, 2) else if big = true then (0, 3) else (n, 0) := by
  unfold numR
  rw [h]
theorem u64_id {m : Int} (h0 : 0 ≤ m) (h1 : m < 18446744073709551616) : IntKind.u64.wrap m = m := by
  unfold IntKind.wrap
  simp [IntKind.bits, IntKind.signed]
  omega
set_option maxHeartbeats 1600000 in
set_option maxRecDepth 100000 in
theorem number_calls (s : ByteArray) (w : World) (hs : s.size ≤ 140737488355328) :
    Calls Tryd.prog 29 #[.string s] w fun e w' => ∃ n er : Int, e = .returned (.tuple #[.int .u64 n, .int .i64 er]) ∧ numR s = (n, er) ∧ Below w.heap.size w w' := by
  have kb := fun W => print_bytes (P := Tryd.prog) 9 61 5 Tryd.underlying9 Tryd.underlying61 Tryd.underlying5 s W
  have HB := Aside0.mk (bytes_below (Below.refl w.heap.size w) (Nat.le_refl _) 5 s)
  have HC := Aside0.mk (show ∀ j : Nat, j < s.size → (Lib.bytesWorld w 5 s).cell? ⟨w.heap.size, j, none⟩ = some (.int .u8 (bt s j)) from fun j h => bytes_cell w 5 s j h (Below.refl _ _))
  go_enter Tryd.func29, Tryd.ntmps29
  go_wp2
  clear kb
  go_loopw [4, 5, 12] (fun v4 v5 v12 wr => ∃ (k : Nat) (n : Int) (big : Bool), k ≤ s.size ∧ v12 = .int .i64 k ∧ v4 = .int .u64 n ∧ v5 = .bool big ∧ 0 ≤ n ∧ n ≤ 4611686018427387903 ∧ Aside0 (numL 0 false s.data.toList = numL n big (s.data.toList.drop k)) ∧ Aside0 (wr = Lib.bytesWorld w 5 s)) (fun _ _ v12 _ => s.size - (intOf v12).toNat)
  case atStart => exact ⟨0, 0, false, Nat.zero_le _, rfl, rfl, rfl, by decide, by decide, ⟨rfl⟩, ⟨rfl⟩⟩
  case round =>
    obtain ⟨k, n, big, hk, rfl, rfl, rfl, hn0, hn1, hE, hw⟩ := hrel
    have hw := hw.out
    subst hw
    by_cases hlt : k < s.size
    · obtain ⟨c, hd, hb⟩ := drop_byte s k hlt
      have hcell := HC.out k hlt
      rw [hb] at hcell
      have HE := Aside0.mk hE.out
      rw [hd, numL] at HE
      have hx0 : 0 ≤ (c.toNat : Int) := by omega
      have hx1 : (c.toNat : Int) ≤ 255 := by have := c.toNat_lt; omega
      clear hb hE hd
      generalize (c.toNat : Int) = x at *
      by_cases h48 : x < 48
      · rw [if_pos (.inl h48)] at HE
        go_wp2
        go_ret2
        exact ⟨0, 2, rfl, numR_none HE.out, HB.out⟩
      · have h48' : 48 ≤ x := by omega
        by_cases h57 : 57 < x
        · rw [if_pos (.inr h57)] at HE
          go_wp2
          go_ret2
          exact ⟨0, 2, rfl, numR_none HE.out, HB.out⟩
        · rw [if_neg (by omega)] at HE
          have h57' : x ≤ 57 := by omega
          cases big with
          | true =>
            rw [if_pos rfl] at HE
            go_wp2
            go_roundw
            case rel => exact ⟨k + 1, n, true, hlt, by go_num, rfl, rfl, hn0, hn1, HE, by first | exact ⟨trivial⟩ | exact ⟨rfl⟩⟩
            case measure => simp [intOf]; omega
          | false =>
            rw [if_neg (by decide)] at HE
            by_cases hgt : (4611686018427387903 - (x - 48)) / 10 < n
            · rw [if_pos hgt] at HE
              have hgd : decide ((4611686018427387903 - (x - 48)) / 10 < n) = true := decide_eq_true hgt
              have hm : (x - 48) % 256 = x - 48 := by omega
              have hs : IntKind.u64.wrap (4611686018427387903 - (x - 48)) = 4611686018427387903 - (x - 48) := u64_id (by omega) (by omega)
              go_wp2
              go_roundw
              case rel => exact ⟨k + 1, n, true, hlt, by go_num, rfl, by first | rfl | rw [hgd], hn0, hn1, HE, by first | exact ⟨trivial⟩ | exact ⟨rfl⟩⟩
              case measure => simp [intOf]; omega
            · rw [if_neg hgt] at HE
              have hgd : decide ((4611686018427387903 - (x - 48)) / 10 < n) = false := decide_eq_false hgt
              have hng : n ≤ (4611686018427387903 - (x - 48)) / 10 := by omega
              have hb1 : 10 * n + (x - 48) ≤ 4611686018427387903 := by omega
              have hw1 : IntKind.u64.wrap (10 * n) = 10 * n := u64_id (by omega) (by omega)
              have hw2 : IntKind.u64.wrap (10 * n + (x - 48)) = 10 * n + (x - 48) := u64_id (by omega) (by omega)
              go_wp2
              go_roundw
              case rel => exact ⟨k + 1, 10 * n + (x - 48), false, hlt, by go_num, by first | rfl | rw [hw1, hw2] | rw [hw2], by first | rfl | rw [hgd], by omega, hb1, HE, by first | exact ⟨trivial⟩ | exact ⟨rfl⟩⟩
              case measure => simp [intOf]; omega
    · obtain rfl : k = s.size := by omega
      have HE := Aside0.mk (hE.out)
      rw [List.drop_eq_nil_of_le (by rw [← size_eq_length]; exact Nat.le_refl _), numL] at HE
      have HN := Aside0.mk (numR_some HE.out)
      clear hE HE
      by_cases h0 : s.size = 0
      · rw [if_pos h0] at HN
        obtain rfl : s = ⟨#[]⟩ := ByteArray.ext (Array.eq_empty_of_size_eq_zero h0)
        go_wp2
        go_ret2
        exact ⟨0, 2, rfl, HN.out, HB.out⟩
      · rw [if_neg h0] at HN
        have hne1 : (s.toList == ([] : List UInt8)) = false := by
          rw [ByteArray.toList_eq, beq_eq_false_iff_ne]
          intro e
          apply h0
          rw [size_eq_length, e]; rfl
        have hne2 : (s.toList = ([] : List UInt8)) = False := by simpa using hne1
        have hne3 : (s = (⟨#[]⟩ : ByteArray)) = False := by
          refine eq_false ?_
          rintro rfl
          exact h0 rfl
        cases big with
        | true =>
          rw [if_pos rfl] at HN
          go_wp2
          go_ret2
          exact ⟨0, 3, rfl, HN.out, HB.out⟩
        | false =>
          rw [if_neg (by decide)] at HN
          go_wp2
          go_ret2
          exact ⟨n, 0, rfl, HN.out, HB.out⟩
end Go.Proofs.YtofegjgiocljlaaDoorH
end
section
namespace Go.Proofs.YtofegjgiocljlaaDoorH
open Go.RowKit Go.Proofs.YtofegjgiocljlaaDoorW.PrintWords Go.Proofs.YtofegjgiocljlaaDoorW.PrintLast Go.Proofs.YtofegjgiocljlaaDoorW.PrintMore
def list_Items.f (l0 : List ByteArray) : Option (List ByteArray) := if sumS l0 ≤ 1000000 then some (itemsL l0) else none
def list_Has.f (a0 : ByteArray) (l1 : List ByteArray) : Option Bool := if a0.size ≤ 1000000 ∧ sumS l1 ≤ 1000000 then some (hasB (itemsL l1) a0) else none
def list_Codings.f (l0 : List ByteArray) : Option ((List ByteArray) × Int) := if sumS l0 ≤ 1000000 then some (codR l0) else none
theorem list_Codings.calls (A0 : Option Addr) (c0 : Nat) (l0 : List ByteArray) (r1 : List ByteArray) (r2 : Int) (w : World) (hr0 : Kd.C Kd.string w A0 l0.length l0) (hc0 : l0.length ≤ c0) (hG : TabOk w) (h : list_Codings.f l0 = some (r1, r2)) :
    Calls Tryd.prog 31 #[.slice A0 l0.length c0] w fun e w' => ∃ v0_ : Value, e = .returned (.tuple #[v0_, .int .i64 r2]) ∧ Kd.R Kd.string 9 w' w.heap.size (fun _ => True) v0_ r1 ∧ Below w.heap.size w w' := by
  unfold list_Codings.f at h
  split at h
  · rename_i hs
    injection h with h
    refine (callsIn_wide.1 (Codings_in 7 (Nat.le_refl _) A0 c0 l0 hs hc0 w hG hr0)).mono ?_
    rintro e w' ⟨v, l, er, rfl, hr, hR, hb⟩
    rw [h] at hr
    cases hr
    exact ⟨v, rfl, hR, hb⟩
  · cases h
def list_Number.f (a0 : ByteArray) : Option (Int × Int) := if a0.size ≤ 140737488355328 then some (numR a0) else none
end Go.Proofs.YtofegjgiocljlaaDoorH
end
section
namespace Go.Proofs.YtofegjgiocljlaaDoorH
open Go.RowKit Go.Proofs.YtofegjgiocljlaaDoorW.PrintWords Go.Proofs.YtofegjgiocljlaaDoorW.PrintLast Go.Proofs.YtofegjgiocljlaaDoorW.PrintMore
theorem at_u64 {w : World} {A : Option Addr} {n : Nat} {xs : List Int} (h : Kd.C (Kd.int .u64) w A n xs) (k : Nat) (hk : k < n) : ∃ ad, A = some ad ∧ w.cell? (ad.add k) = some (.int .u64 (xs.getD k 0)) := by
  obtain ⟨ad, c, e, _, hK, hc0⟩ := Kd.C_get h 0 (k : Int) (by omega) (by omega)
  have hc : ∀ j u, c[j]? = some u → w.cell? (ad.add ((k : Int).toNat * 1 + j)) = some u := hc0
  rw [Int.toNat_natCast] at hK hc
  have hK : c = [.int .u64 (xs.getD k 0)] := hK
  subst hK
  refine ⟨ad, e, ?_⟩
  have := hc 0 _ rfl
  rwa [Nat.mul_one, Nat.add_zero] at this
def minI (l : List Int) : Int := (l.drop 1).foldl min (l.getD 0 0)
def maxI (l : List Int) : Int := (l.drop 1).foldl max (l.getD 0 0)
def minTo (l : List Int) (k : Nat) : Int := ((l.take k).drop 1).foldl min (l.getD 0 0)
def maxTo (l : List Int) (k : Nat) : Int := ((l.take k).drop 1).foldl max (l.getD 0 0)
theorem drop_take_step (l : List Int) (k : Nat) (h1 : 1 ≤ k) (h : k < l.length) : (l.take (k + 1)).drop 1 = (l.take k).drop 1 ++ [l.getD k 0] := by
  rw [take_one l 0 k h, List.drop_append_of_le_length (by rw [List.length_take]; omega)]
theorem minTo_step (l : List Int) (k : Nat) (h1 : 1 ≤ k) (h : k < l.length) : minTo l (k + 1) = min (minTo l k) (l.getD k 0) := by
  unfold minTo
  rw [drop_take_step l k h1 h, List.foldl_append]
  rfl
theorem maxTo_step (l : List Int) (k : Nat) (h1 : 1 ≤ k) (h : k < l.length) : maxTo l (k + 1) = max (maxTo l k) (l.getD k 0) := by
  unfold maxTo
  rw [drop_take_step l k h1 h, List.foldl_append]
  rfl
set_option maxHeartbeats 800000 in
set_option maxRecDepth 100000 in
theorem min_calls (A0 : Option Addr) (c0 : Nat) (l : List Int) (w : World) (hr : Kd.C (Kd.int .u64) w A0 l.length l) (hn : 0 < l.length) (hl : l.length < 8796093022208) :
    Calls Tryd.prog 44 #[.slice A0 l.length c0] w fun e w' => e = .returned (.int .u64 (minI l)) ∧ w' = w := by
  obtain ⟨ad, e, hx0⟩ := at_u64 hr 0 hn
  subst e
  rw [show ad.add 0 = ad from rfl] at hx0
  have HR := Aside0.mk hr
  have hn1 : ¬ (l.length : Int) < 1 := by omega
  clear hr
  go_enter Tryd.func44, Tryd.ntmps44
  go_wp2
  go_loop [3, 4] (fun v3 v4 => ∃ k : Nat, 1 ≤ k ∧ k ≤ l.length ∧ v4 = .int .i64 k ∧ v3 = .int .u64 (minTo l k)) (fun _ v4 => l.length - (intOf v4).toNat)
  case atStart => exact ⟨1, Nat.le_refl _, hn, rfl, congrArg (Value.int IntKind.u64) (by unfold minTo; cases l with | nil => exact absurd hn (Nat.lt_irrefl _) | cons a l => rfl)⟩
  case round =>
    obtain ⟨k, h1, hk, rfl, rfl⟩ := hrel
    by_cases hlt : k < l.length
    · obtain ⟨ad', e, hxk⟩ := at_u64 HR.out k hlt
      cases e
      have HS := Aside0.mk (minTo_step l k h1 hlt)
      generalize l.getD k 0 = y at *
      generalize hmk : minTo l k = m at *
      go_wp2
      go_round
      case rel => exact ⟨k + 1, by omega, hlt, by go_num, by rw [HS.out]⟩
      case measure => simp [intOf]; omega
    · obtain rfl : k = l.length := by omega
      have HM := Aside0.mk (show minTo l l.length = minI l by unfold minTo minI; rw [List.take_length])
      go_wp2
      go_ret
      exact ⟨by first | rfl | (simp; done) | (rw [HM.out]; first | rfl | simp), rfl⟩
set_option maxHeartbeats 800000 in
set_option maxRecDepth 100000 in
theorem max_calls (A0 : Option Addr) (c0 : Nat) (l : List Int) (w : World) (hr : Kd.C (Kd.int .u64) w A0 l.length l) (hn : 0 < l.length) (hl : l.length < 8796093022208) :
    Calls Tryd.prog 45 #[.slice A0 l.length c0] w fun e w' => e = .returned (.int .u64 (maxI l)) ∧ w' = w := by
  obtain ⟨ad, e, hx0⟩ := at_u64 hr 0 hn
  subst e
  rw [show ad.add 0 = ad from rfl] at hx0
  have HR := Aside0.mk hr
  have hn1 : ¬ (l.length : Int) < 1 := by omega
  clear hr
  go_enter Tryd.func45, Tryd.ntmps45
  go_wp2
  go_loop [3, 4] (fun v3 v4 => ∃ k : Nat, 1 ≤ k ∧ k ≤ l.length ∧ v4 = .int .i64 k ∧ v3 = .int .u64 (maxTo l k)) (fun _ v4 => l.length - (intOf v4).toNat)
  case atStart => exact ⟨1, Nat.le_refl _, hn, rfl, congrArg (Value.int IntKind.u64) (by unfold maxTo; cases l with | nil => exact absurd hn (Nat.lt_irrefl _) | cons a l => rfl)⟩
  case round =>
    obtain ⟨k, h1, hk, rfl, rfl⟩ := hrel
    by_cases hlt : k < l.length
    · obtain ⟨ad', e, hxk⟩ := at_u64 HR.out k hlt
      cases e
      have HS := Aside0.mk (maxTo_step l k h1 hlt)
      generalize l.getD k 0 = y at *
      generalize hmk : maxTo l k = m at *
      go_wp2
      go_round
      case rel => exact ⟨k + 1, by omega, hlt, by go_num, by rw [HS.out]⟩
      case measure => simp [intOf]; omega
    · obtain rfl : k = l.length := by omega
      have HM := Aside0.mk (show maxTo l l.length = maxI l by unfold maxTo maxI; rw [List.take_length])
      go_wp2
      go_ret
      exact ⟨by first | rfl | (simp; done) | (rw [HM.out]; first | rfl | simp), rfl⟩
end Go.Proofs.YtofegjgiocljlaaDoorH
end
