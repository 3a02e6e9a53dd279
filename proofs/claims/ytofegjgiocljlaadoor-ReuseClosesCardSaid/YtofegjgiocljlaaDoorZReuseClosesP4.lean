import Derived.Test.YtofegjgiocljlaaDoorZReuseClosesP1
import Derived.Test.YtofegjgiocljlaaDoorZReuseClosesP3
import Derived.Test.YtofegjgiocljlaaDoorZReuseClosesP2
import Derived.Test.YtofegjgiocljlaaDoorZReuseClosesP0
import Derived.Test.YtofegjgiocljlaaDoorProg
import Derived.Below
import Derived.Deep.Draws
import Derived.Deep.AppendLies
import Derived.Maps.AppendAt
import Derived.OwnWalk
import Derived.Laws.BytesArg
import Derived.Laws.MakeOwn
import Derived.Laws.OwnMore
import Derived.Deep.OwnRows
import Derived.Tactics
import Derived.Lib.ConvBytes
import Derived.Laws.Slices
import Derived.WalkKit
import Derived.KernelRfl
import Derived.RowKit3
import Derived.Deep.LoopGhost
import Derived.Deep.QuietTactic
import Derived.BigQuiet
import Derived.WideLaws
import Derived.Deep.DeepCutAuto
import Derived.Deep.CutBlock
import Derived.Deep.RegionHeld3
import Derived.Laws.Rows
import Derived.Lib.AppendStr
import Derived.ArgAppend
import Derived.Laws.IdiomCopy
import Derived.OrdersHeld
import Derived.Laws.BitsLemmas
import Derived.RowKit
import Derived.Laws.EntriesVeiled
import Derived.Laws.NewBlocks
import Derived.ProofKit
import Derived.OpenShut
import Derived.Deep.Slices
import Derived.SizedLaws
section
namespace Go.Proofs.YtofegjgiocljlaaDoor.Ps
open Go.RowKit Go.Proofs.YtofegjgiocljlaaDoorH Go.Proofs.YtofegjgiocljlaaDoorW.PrintWords Go.Proofs.YtofegjgiocljlaaDoorW.PrintLast Go.Proofs.YtofegjgiocljlaaDoorW.PrintMore
attribute [local go_sem] max2_int min2_int max_two min_two max_three min_three max_four min_four   -- for this text's walks alone
set_option linter.unusedVariables false
set_option linter.unusedSimpArgs false
def errW : Option Int → Value
  | none => .nilIface
  | some c => .iface 0 (.int .i64 c)
theorem errW_none : errW none = .nilIface := rfl
theorem errW_some (c : Int) : errW (some c) = .iface 0 (.int .i64 c) := rfl
theorem info9 : (Tryd.prog.info? 9).map (fun i => (i.zero, i.size, i.bytes)) = some (some (.string ⟨#[]⟩), 1, 16) := by kernel_rfl
end Go.Proofs.YtofegjgiocljlaaDoor.Ps
end
section
namespace Go.Proofs.YtofegjgiocljlaaDoor.Ps
open Go.RowKit Go.Proofs.YtofegjgiocljlaaDoorH Go.Proofs.YtofegjgiocljlaaDoorW.PrintWords Go.Proofs.YtofegjgiocljlaaDoorW.PrintLast Go.Proofs.YtofegjgiocljlaaDoorW.PrintMore
attribute [local go_sem] max2_int min2_int max_two min_two max_three min_three max_four min_four   -- for this text's walks alone
set_option linter.unusedVariables false
set_option linter.unusedSimpArgs false
def slices_Index_int_int.l0 : Nat → List Int → Int → Int → Int → Option (Int)
  | 0, _, _, _, _ => none
  | k + 1, x0, x1, x7, x8 => if x8 < x7 then (if 0 ≤ x8 then (if x8 < (x0.length : Int) then (if x1 = (rd x0 x8) then (some x8) else (slices_Index_int_int.l0 k x0 x1 x7 (wrap64 (x8 + 1)))) else (none)) else (none)) else (some (-1))
def slices_Index_int_int.f (k : Nat) (l0 : List Int) (a1 : Int) : Option (Int) := slices_Index_int_int.l0 k l0 a1 (l0.length : Int) 0
theorem slices_Index_int_int.mono_l : ∀ k, (∀ y0 y1 y2 y3, LeO (slices_Index_int_int.l0 k y0 y1 y2 y3) (slices_Index_int_int.l0 (k + 1) y0 y1 y2 y3))
  | 0 => fun _ _ _ _ r h => by simp [slices_Index_int_int.l0] at h
  | k + 1 => by
    have ih0 := slices_Index_int_int.mono_l k
    · intro y0 y1 y2 y3
      unfold slices_Index_int_int.l0
      repeat' first
      | (with_reducible exact ih0 _ _ _ _)
      | (with_reducible exact LeO.refl _)
      | (with_reducible exact LeO.none _)
      | (with_reducible refine LeO.ite ?_ ?_)
      | (with_reducible refine LeO.bind ?_ (fun _ => ?_))
      | exact ih0 _ _ _ _
      | exact LeO.none _
      | refine LeO.ite ?_ ?_
      | refine LeO.bind ?_ (fun _ => ?_)
theorem slices_Index_int_int.mono : ∀ a0 a1 k, LeO (slices_Index_int_int.f k a0 a1) (slices_Index_int_int.f (k + 1) a0 a1) := by
  intro a0 a1 k
  have ih0 := slices_Index_int_int.mono_l k
  unfold slices_Index_int_int.f
  repeat' first
      | (with_reducible exact ih0 _ _ _ _)
      | (with_reducible exact LeO.refl _)
      | (with_reducible exact LeO.none _)
      | (with_reducible refine LeO.ite ?_ ?_)
      | (with_reducible refine LeO.bind ?_ (fun _ => ?_))
      | exact ih0 _ _ _ _
      | exact LeO.none _
      | refine LeO.ite ?_ ?_
      | refine LeO.bind ?_ (fun _ => ?_)
def slices_Contains_int_int.f (k : Nat) (l0 : List Int) (a1 : Int) : Option (Bool) := (slices_Index_int_int.f k l0 a1).bind fun t102 => (some (decide (t102 ≥ 0)))
theorem slices_Contains_int_int.mono : ∀ a0 a1 k, LeO (slices_Contains_int_int.f k a0 a1) (slices_Contains_int_int.f (k + 1) a0 a1) := by
  intro a0 a1 k
  unfold slices_Contains_int_int.f
  repeat' first
      | (with_reducible exact slices_Index_int_int.mono _ _ _)
      | (with_reducible exact LeO.refl _)
      | (with_reducible exact LeO.none _)
      | (with_reducible refine LeO.ite ?_ ?_)
      | (with_reducible refine LeO.bind ?_ (fun _ => ?_))
      | exact slices_Index_int_int.mono _ _ _
      | exact LeO.none _
      | refine LeO.ite ?_ ?_
      | refine LeO.bind ?_ (fun _ => ?_)
def list_word.f (a0 : ByteArray) : Option (ByteArray) := (strings_Cut.f a0 (⟨#[59]⟩ : ByteArray)).bind fun bt103 => ((octet_Trim.f bt103.1).bind fun t106 => (some t106))
set_option maxHeartbeats 8000000 in
set_option maxRecDepth 100000 in
theorem list_word.calls (a0 : ByteArray) (r : ByteArray) (w : World) (hG : TabOk w) (h : list_word.f a0 = some r) :
    Calls Tryd.prog 46 #[.string a0] w fun e w' => e = .returned (.string r) ∧ Below w.heap.size w w' := by
  have HB := Aside0.mk (Below.refl w.heap.size w)
  have H : ((strings_Cut.f a0 (⟨#[59]⟩ : ByteArray)).bind fun bt103 => ((octet_Trim.f bt103.1).bind fun t106 => (some t106))) = some r := h
  clear h
  replace H := Option.bind_eq_some_iff.mp H
  obtain ⟨⟨t103, t104, t105⟩, A20, H⟩ := H
  replace H : ((octet_Trim.f t103).bind fun t106 => (some t106)) = some r := H
  have A2 := Aside0.mk A20
  clear A20
  replace H := Option.bind_eq_some_iff.mp H
  obtain ⟨t106, A30, H⟩ := H
  replace H : (some t106) = some r := H
  have A3 := Aside0.mk A30
  clear A30
  obtain rfl := Option.some.inj H
  go_enter Tryd.func46, Tryd.ntmps46
  go_wp2_with (first | ((with_reducible refine gate_callee (f := 68) rfl ?_); refine goesL_ (some 8) rfl rfl Tryd.func68 (by kernel_rfl) rfl #[.string a0, .string (⟨#[59]⟩ : ByteArray)] rfl (by (try simp only [List.map_toArray, List.map_cons, List.map_nil]); first | done | rfl | (simp only [List.length_drop, List.length_take]; rfl)) ?_; (with_reducible refine (strings_Cut.calls a0 (⟨#[59]⟩ : ByteArray) t103 t104 t105 _ ?side1 A2.out).mono ?_); (case side1 => first | exact hG | exact TabOk.drewN hG _ | exact TabOk.drewN (TabOk.drewN hG _) _ | exact TabOk.below hG (by repeat (first | (with_reducible first | exact HB.out | apply below_alloc | apply pw_below_drewN | apply below_drew1) | exact HB.out))); rintro e w4 ⟨rfl, hb⟩; refine ⟨_, rfl, ?_⟩; have n0_ := Aside0.mk (below_step (by repeat (first | (with_reducible first | exact HB.out | apply below_alloc | apply pw_below_drewN | apply below_drew1) | exact HB.out)) hb); clear HB; have HB := n0_; clear n0_; (try clear hb); (try clear hb2); (try clear hk); (try clear hi)) | ((with_reducible refine gate_callee (f := 66) rfl ?_); refine goesL_ (some 13) rfl rfl Tryd.func66 (by kernel_rfl) rfl #[.string t103] rfl (by (try simp only [List.map_toArray, List.map_cons, List.map_nil]); first | done | rfl | (simp only [List.length_drop, List.length_take]; rfl)) ?_; (with_reducible refine (octet_Trim.calls t103 t106 _ ?side1 A3.out).mono ?_); (case side1 => first | exact hG | exact TabOk.drewN hG _ | exact TabOk.drewN (TabOk.drewN hG _) _ | exact TabOk.below hG (by repeat (first | (with_reducible first | exact HB.out | apply below_alloc | apply pw_below_drewN | apply below_drew1) | exact HB.out))); rintro e w5 ⟨rfl, hb⟩; refine ⟨_, rfl, ?_⟩; have n0_ := Aside0.mk (below_step (by repeat (first | (with_reducible first | exact HB.out | apply below_alloc | apply pw_below_drewN | apply below_drew1) | exact HB.out)) hb); clear HB; have HB := n0_; clear n0_; (try clear hb); (try clear hb2); (try clear hk); (try clear hi)))
  go_ret
  exact ⟨by first | rfl | (simp [errW_none, errW_some] <;> rfl) | (simp [*, errW_none, errW_some] <;> rfl), by repeat (first | (with_reducible first | exact HB.out | apply below_alloc | apply pw_below_drewN | apply below_drew1) | exact HB.out)⟩
end Go.Proofs.YtofegjgiocljlaaDoor.Ps
end
section
namespace Go.Proofs.YtofegjgiocljlaaDoorH
open Go.RowKit Go.Shelf Go.Proofs.YtofegjgiocljlaaDoorW.PrintWords Go.Proofs.YtofegjgiocljlaaDoorW.PrintLast Go.Proofs.YtofegjgiocljlaaDoorW.PrintMore Go.Proofs.YtofegjgiocljlaaDoor.Ps
attribute [local go_sem] Oper.semAt_some
def sumS (l : List ByteArray) : Nat := (l.map fun x => x.size + 1).sum
theorem sumS_cons (x : ByteArray) (l : List ByteArray) : sumS (x :: l) = (x.size + 1) + sumS l := by simp [sumS]
theorem sumS_length : ∀ l : List ByteArray, l.length ≤ sumS l
  | [] => Nat.le_refl _
  | x :: l => by
    have := sumS_length l
    rw [sumS_cons, List.length_cons]
    omega
theorem sumS_at : ∀ (l : List ByteArray) (x : ByteArray), x ∈ l → x.size + 1 ≤ sumS l
  | y :: l, x, h => by
    rw [sumS_cons]
    rcases List.mem_cons.1 h with rfl | h
    · omega
    · have := sumS_at l x h
      omega
theorem itemsP_size (s : ByteArray) : ∀ y ∈ itemsP s, y.size ≤ s.size := by
  intro y hy
  unfold itemsP at hy
  obtain ⟨p, hp, rfl⟩ := List.mem_map.1 (List.mem_filter.1 hy).1
  exact Nat.le_trans (trimS_size p) (partsB_size s p hp)
theorem itemsF_mem : ∀ (l : List ByteArray) (i : Nat) (y : Nat × ByteArray), y ∈ itemsF i l → i ≤ y.1 ∧ y.1 < i + l.length ∧ y.2.size ≤ sumS l
  | [], _, y, h => absurd h List.not_mem_nil
  | v :: l, i, y, h => by
    rw [itemsF] at h
    rw [sumS_cons, List.length_cons]
    rcases List.mem_append.1 h with h | h
    · obtain ⟨z, hz, rfl⟩ := List.mem_map.1 h
      have := itemsP_size v z hz
      exact ⟨Nat.le_refl _, by omega, by show z.size ≤ _; omega⟩
    · have := itemsF_mem l (i + 1) y h
      omega
def itemsL (l : List ByteArray) : List ByteArray := (itemsF 0 l).map fun y => y.2
def snds (l : List (Nat × ByteArray)) : List ByteArray := l.map fun y => y.2
theorem results_cell1 {fn : Func} {p : Tmp} {ty : TypeId} (h : fn.results = #[.cell p ty]) (tmps : Array Value) (P : Program) (w : World) (a : Addr) (v : Value)
    (hp : tmps.getD p undef = .pointer (some a)) (hA : (isAgg ty).run P w = .ok false w) (hc : w.cell? a = some v) : (results fn tmps).run P w = .ok v w := by
  rw [Array.getD_eq_getD_getElem?] at hp
  simp only [results, h]
  simp [Sem.run_bind, Result.andThen, hp, loadVar, hA, asAddr, go_sem, hc]
def cutL (c : UInt8) (s : ByteArray) : ByteArray := ⟨(Lib.cut s.data.toList [c]).1.toArray⟩
def wordS (s : ByteArray) : ByteArray := trimS (cutL 59 s)
theorem cutL_size (c : UInt8) (s : ByteArray) : (cutL c s).size ≤ s.size := by
  show (Lib.cut s.data.toList [c]).1.length ≤ _
  rw [size_eq_length]
  unfold Lib.cut
  split
  · rw [List.length_take]; omega
  · exact Nat.le_refl _
theorem wordS_size (s : ByteArray) : (wordS s).size ≤ s.size := Nat.le_trans (trimS_size _) (cutL_size _ _)
theorem list_word_eq (s : ByteArray) (hs : s.size < 4294967281) : list_word.f s = some (wordS s) := by
  unfold list_word.f strings_Cut.f octet_Trim.f
  rw [if_pos hs, Option.bind_some]
  have h := cutL_size 59 s
  have h2 : (cutL 59 s).size ≤ 140737488355328 := by omega
  show ((if (cutL 59 s).size ≤ 140737488355328 then some (trimS (cutL 59 s)) else none).bind fun t => some t) = some (wordS s)
  rw [if_pos h2]
  rfl
theorem word_calls (s : ByteArray) (w : World) (hs : s.size < 4294967281) (hG : TabOk w) :
    Calls Tryd.prog 46 #[.string s] w fun e w' => e = .returned (.string (wordS s)) ∧ Below w.heap.size w w' := list_word.calls s (wordS s) w hG (list_word_eq s hs)
def hasB (l : List ByteArray) (n : ByteArray) : Bool := l.any fun y => alikeB (wordS y) n
theorem hasB_snoc (l : List ByteArray) (y n : ByteArray) : hasB (l ++ [y]) n = (hasB l n || alikeB (wordS y) n) := by
  unfold hasB
  rw [List.any_append]
  simp
set_option maxRecDepth 100000 in
set_option maxHeartbeats 2000000 in
theorem Has_in (n : Nat) (hn : 7 ≤ n) (q : ByteArray) (hq : q.size ≤ 1000000) (A0 : Option Addr) (c0 : Nat) (xs : List ByteArray) (hS : sumS xs ≤ 1000000) (hc0 : xs.length ≤ c0) (w : World) (hG : TabOk w) (hr : Kd.C Kd.string w A0 xs.length xs) :
    CallsIn Fence.wide n Tryd.prog 35 #[.string q, .slice A0 xs.length c0] w fun e w' => e = .returned (.bool (hasB (itemsL xs) q)) ∧ Below w.heap.size w w' := by
  have h1 : 1 ≤ n := by omega
  have hlen := sumS_length xs
  have HIT := Aside0.mk (items_calls A0 xs.length c0 ((w.alloc (.cells #[.string q] 9)).alloc (.cells #[.bool false] 4)))
  refine callsIn_of_wp_marks Tryd.func35 rfl trivial ?_ rfl
  simp only [Tryd.ntmps35, List.size_toArray, List.length_cons, List.length_nil, Nat.reduceAdd, Nat.reduceSub, Array.replicate_succ, Array.replicate_zero, List.push_toArray, List.append_toArray, List.nil_append, List.cons_append]
  gi_wp2
  refine ⟨trivial, ?_⟩
  refine (callsIn_wide.2 HIT.out).mono ?_
  rintro e w2 ⟨rfl, rfl⟩
  clear HIT
  gi_wp2
  have HB2 := Aside0.mk (show Below w.heap.size w (((w.alloc (.cells #[.string q] 9)).alloc (.cells #[.bool false] 4)).alloc (.cells #[.slice A0 xs.length c0] 40)) from below_alloc (below_alloc (below_alloc (Below.refl _ _) _) _) _)
  have HBq := Aside0.mk (show Boxed (((w.alloc (.cells #[.string q] 9)).alloc (.cells #[.bool false] 4)).alloc (.cells #[.slice A0 xs.length c0] 40)) w.heap.size 9 (.string q) from ((Boxed.new w _ _).alloc _).alloc _)
  have HBr := Aside0.mk (show Boxed (((w.alloc (.cells #[.string q] 9)).alloc (.cells #[.bool false] 4)).alloc (.cells #[.slice A0 xs.length c0] 40)) (w.heap.size + 1) 4 (.bool false) by
    have := Boxed.new (w.alloc (.cells #[.string q] 9)) 4 (.bool false)
    rw [World.size_alloc] at this
    exact this.alloc _)
  have HBv := Aside0.mk (show Boxed (((w.alloc (.cells #[.string q] 9)).alloc (.cells #[.bool false] 4)).alloc (.cells #[.slice A0 xs.length c0] 40)) (w.heap.size + 1 + 1) 40 (.slice A0 xs.length c0) by
    have := Boxed.new ((w.alloc (.cells #[.string q] 9)).alloc (.cells #[.bool false] 4)) 40 (.slice A0 xs.length c0)
    rwa [World.size_alloc, World.size_alloc] at this)
  have s2 : (((w.alloc (.cells #[.string q] 9)).alloc (.cells #[.bool false] 4)).alloc (.cells #[.slice A0 xs.length c0] 40)).heap.size = w.heap.size + 3 := by simp only [World.size_alloc]
  generalize (((w.alloc (.cells #[.string q] 9)).alloc (.cells #[.bool false] 4)).alloc (.cells #[.slice A0 xs.length c0] 40)) = w2 at *
  have HSQ := Aside0.mk (items_own (n - 1) (by omega) (w.heap.size + 1 + 1) A0 c0 xs (fun x hx => by have := sumS_at xs x hx; omega) hc0 (by omega) w hG hr w2 (Lies.below HB2.out) HBv.out (by omega))
  have HMM := Aside0.mk (itemsF_mem xs 0)
  refine wpIn_range_own (F := Fence.wide) rfl rfl h1 (gf := 64) (lb := #[.pointer (some ⟨w.heap.size + 1 + 1, 0, none⟩)]) (by first | rfl | simp) trivial (enters_of Tryd.func64 (by kernel_rfl) rfl) HSQ.out (Below.refl _ _) (fun r h => h.elim)
    (by rintro r (h | rfl) <;> omega) (fun _ => rfl) none (fun q e => by cases e)
    (fun pre g W => g = none ∧ (Boxed W w.heap.size 9 (.string q) ∧ (Boxed W (w.heap.size + 1) 4 (.bool false) ∧ (Below w.heap.size w W ∧ hasB (snds pre) q = false))))
    (fun c pre g W => g = none ∧ (Boxed W (w.heap.size + 1) 4 (.bool true) ∧ (Below w.heap.size w W ∧ (c = .ret ∧ hasB (snds pre) q = true))))
    (Abd.and (Abd.pure (β := List (Nat × ByteArray)) (fun _ g => g = none)) (Abd.and (Abd.block (fun _ => .cells #[.string q] 9 (0, 0)) (by omega) (fun h => h)) (Abd.and (Abd.block (fun _ => .cells #[.bool false] 4 (0, 0)) (by omega) (fun h => h)) (Abd.and (Abd.low (by omega) (Nat.le_refl _) (fun r h => h.elim)) (Abd.pure (fun pre _ => hasB (snds pre) q = false))))))
    (fun c => Abd.and (Abd.pure (β := List (Nat × ByteArray)) (fun _ g => g = none)) (Abd.and (Abd.block (fun _ => .cells #[.bool true] 4 (0, 0)) (by omega) (fun h => h)) (Abd.and (Abd.low (by omega) (Nat.le_refl _) (fun r h => h.elim)) (Abd.pure (fun pre _ => c = .ret ∧ hasB (snds pre) q = true)))))
    ⟨rfl, HBq.out, HBr.out, HB2.out, rfl⟩
    (fun pre g W q h e => by rw [h.1] at e; cases e) (fun c pre g W q h e => by rw [h.1] at e; cases e)
    (fun x a' _ => a' = { tmps := #[Value.string q, Value.slice A0 xs.length c0, Value.pointer (some { block := w.heap.size, off := 0 }), undef, Value.pointer (some { block := w.heap.size + 1, off := 0 }), undef, Value.string x.2, Value.slice A0 xs.length c0,
      Value.func (Fn.func 64) #[] #[Value.pointer (some { block := w.heap.size + 1 + 1, off := 0 })], Value.int IntKind.i64 ((x.1 : Nat) : Int), Value.string x.2, undef, undef, undef, undef], defers := [] })
    (fun x a' _ _ _ _ _ h _ _ => h) ?assign ?body ?done ?stop
  case assign =>
    intro l pre x g W K hI hK
    dsimp only [encI]
    gi_wp2
    exact hK _ _ (Spares.refl _ _ _) hI rfl
  case body =>
    rintro l pre ⟨at', y⟩ g a' W hW2 ⟨rfl, hbq, hbr, hBW, hno⟩ rfl hsp
    have hyz := (HMM.out (at', y) (hsp.subset (List.mem_append_right _ List.mem_cons_self))).2.2
    have HWD := Aside0.mk (fun W1 (hb : Below W.heap.size W W1) => word_calls y W1 (by show y.size < _; have : y.size ≤ sumS xs := hyz; omega) (hG.below (hBW.trans (hb.mono hBW.size))))
    have HAL := Aside0.mk (fun W1 (hb : Below W.heap.size W W1) => alike_calls (wordS y) q W1 (by have := wordS_size y; have : y.size ≤ sumS xs := hyz; omega) (by omega) (hG.below (hBW.trans (hb.mono hBW.size))))
    have hcq := hbq.cell
    have hmx : Tryd.prog.follows .mixedOrders = true := by kernel_rfl
    have hcd : W.drew.cell? ⟨w.heap.size, 0, none⟩ = some (.string q) := hcq
    gi_wp2
    gi_region_with_o (first
      | (refine ⟨trivial, (fun _ => by omega), ?_⟩; gi_at_call 46; refine (CallsIn.inRound l (callsIn_wide.2 (HWD.out W.drew (Below.refl _ _).drew))).mono ?_; rintro e w5 ⟨rfl, b5⟩; have HB5 := Aside0.mk (((Below.refl W.heap.size W).drew).trans (b5.mono (Nat.le_refl _))); have hcq5 := pw_cell_below b5 hcd; clear b5)
      | (refine ⟨trivial, (fun _ => by omega), ?_⟩; gi_at_call 54; refine (CallsIn.inRound l (callsIn_wide.2 (HAL.out w5 HB5.out))).mono ?_; rintro e w6 ⟨rfl, b6⟩; have HB6 := Aside0.mk (HB5.out.trans (b6.mono HB5.out.size)); clear b6))
    all_goals
      obtain ⟨b, hb⟩ : ∃ b, alikeB (wordS y) q = b := ⟨_, rfl⟩
      have HH := Aside0.mk (hasB_snoc (snds pre) y q)
      rw [hno, Bool.false_or, hb] at HH
      have HQ6 := Aside0.mk (show Boxed w6 w.heap.size 9 (.string q) from (HB6.out.block _ hbq.lt).trans hbq)
      have HR6 := Aside0.mk (show Boxed w6 (w.heap.size + 1) 4 (.bool false) from (HB6.out.block _ hbr.lt).trans hbr)
      have HW6 := Aside0.mk (hBW.trans (HB6.out.mono hBW.size))
      have hcl := HR6.out.cell
      have hfz := HR6.out.frozen
      rw [hb]
      clear hb
      cases b with
      | true =>
        gi_wp2
        refine ⟨none, (Spares.below HB6.out).trans (Spares.turned (grownBy_setCell' w6 (w.heap.size + 1) (.bool true)) (fun r e hk => by cases e; rcases hk with h | h | h <;> omega)), rfl, HR6.out.set _, HW6.out.setCell (p := ⟨w.heap.size + 1, 0, none⟩) (Nat.le_succ _) _, rfl, ?_⟩
        unfold snds at *
        rw [List.map_append]
        exact HH.out
      | false =>
        gi_wp2
        refine ⟨none, Spares.below HB6.out, rfl, HQ6.out, HR6.out, HW6.out, ?_⟩
        unfold snds at *
        rw [List.map_append]
        exact HH.out
  case done =>
    rintro D ys g W hD rfl ⟨rfl, hbq, hbr, hBW, hno⟩ hK
    have hcl := hbr.cell
    have hfz := hbr.frozen
    have hne : D ≠ w.heap.size + 1 := by omega
    have HK := Aside0.mk (show (W.setCell ⟨w.heap.size + 1, 0, none⟩ (.bool false)).heap[D]? = some (.deferred (some [])) from (Below.heap_setCell W _ _ D hne).trans hK)
    have HB := Aside0.mk (((hBW.setCell (p := ⟨w.heap.size + 1, 0, none⟩) (Nat.le_succ _) (.bool false))).grown (grownBy_putObj' _ D (.deferred none)) (Nat.le_trans hBW.size (grownBy_setCell' W (w.heap.size + 1) (.bool false)).size) (fun k e => by cases e; omega))
    have HX := Aside0.mk ((hbr.set (.bool false)).kept (grownBy_putObj' _ D (.deferred none)) (fun h => hne (by cases h; rfl)))
    clear hK
    gi_wp2
    refine ⟨by simp, .inl ⟨_, _, rfl, run_takeDeferred HK.out, ?_⟩⟩
    refine ⟨_, results_cell1 rfl _ _ _ ⟨w.heap.size + 1, 0, none⟩ (.bool false) rfl (run_isAgg_plain Tryd.underlying4 rfl _) HX.out.cell, ?_, HB.out⟩
    rw [show hasB (itemsL xs) q = false from hno]
  case stop =>
    rintro D c pre g W hD hsp ⟨rfl, hbr, hBW, rfl, hyes⟩ hK
    have hne : D ≠ w.heap.size + 1 := by omega
    have HK := Aside0.mk hK
    have HB := Aside0.mk (hBW.grown (grownBy_putObj' W D (.deferred none)) hBW.size (fun k e => by cases e; omega))
    have HX := Aside0.mk (hbr.kept (grownBy_putObj' W D (.deferred none)) (fun h => hne (by cases h; rfl)))
    have HH := Aside0.mk (show hasB (itemsL xs) q = true by
      obtain ⟨r, hr⟩ := hsp
      unfold itemsL
      rw [← hr, List.map_append]
      unfold hasB at *
      rw [List.any_append]
      unfold snds at hyes
      rw [hyes, Bool.true_or])
    clear hK hsp hyes
    gi_wp2
    refine ⟨by simp, .inl ⟨_, _, rfl, run_takeDeferred HK.out, ?_⟩⟩
    refine ⟨_, results_cell1 rfl _ _ _ ⟨w.heap.size + 1, 0, none⟩ (.bool true) rfl (run_isAgg_plain Tryd.underlying4 rfl _) HX.out.cell, ?_, HB.out⟩
    rw [HH.out]
end Go.Proofs.YtofegjgiocljlaaDoorH
end
section
namespace Go.Proofs.YtofegjgiocljlaaDoorH
open Go.RowKit Go.Shelf Go.Proofs.YtofegjgiocljlaaDoorW.PrintWords Go.Proofs.YtofegjgiocljlaaDoorW.PrintLast Go.Proofs.YtofegjgiocljlaaDoorW.PrintMore Go.Proofs.YtofegjgiocljlaaDoor.Ps
attribute [local go_sem] Oper.semAt_some
def codeS (y : ByteArray) : ByteArray := smallS (wordS y)
def codesL (l : List ByteArray) : List ByteArray := l.map codeS
def badW (l : List ByteArray) : Bool := l.any fun y => !(tokB (wordS y))
def codR (xs : List ByteArray) : List ByteArray × Int :=
  if xs.length = 0 then ([], 7) else if badW (itemsL xs) = true then ([], 2) else if (itemsL xs).length = 0 then ([], 2) else (codesL (itemsL xs), 0)
end Go.Proofs.YtofegjgiocljlaaDoorH
end
section
namespace Go.Proofs.YtofegjgiocljlaaDoorH
open Go.RowKit Go.Proofs.YtofegjgiocljlaaDoorW.PrintWords Go.Proofs.YtofegjgiocljlaaDoorW.PrintLast Go.Proofs.YtofegjgiocljlaaDoorW.PrintMore
def numL : Int → Bool → List UInt8 → Option (Int × Bool)
  | n, big, [] => some (n, big)
  | n, big, c :: l =>
    if (c.toNat : Int) < 48 ∨ 57 < (c.toNat : Int) then none
    else if big = true then numL n true l
    else if n > (4611686018427387903 - ((c.toNat : Int) - 48)) / 10 then numL n true l
    else numL (10 * n + ((c.toNat : Int) - 48)) false l
def numR (s : ByteArray) : Int × Int := match numL 0 false s.data.toList with
  | none => (0, 2)
  | some (n, big) => if s.size = 0 then (0, 2) else if big = true then (0, 3) else (n, 0)
end Go.Proofs.YtofegjgiocljlaaDoorH
end
section
namespace Go.Proofs.YtofegjgiocljlaaDoorH
open Go.RowKit Go.Proofs.YtofegjgiocljlaaDoorW.PrintWords Go.Proofs.YtofegjgiocljlaaDoorW.PrintLast Go.Proofs.YtofegjgiocljlaaDoorW.PrintMore
def list_Items.f (l0 : List ByteArray) : Option (List ByteArray) := if sumS l0 ≤ 1000000 then some (itemsL l0) else none
def list_Has.f (a0 : ByteArray) (l1 : List ByteArray) : Option Bool := if a0.size ≤ 1000000 ∧ sumS l1 ≤ 1000000 then some (hasB (itemsL l1) a0) else none
theorem list_Has.calls (a0 : ByteArray) (A1 : Option Addr) (c1 : Nat) (l1 : List ByteArray) (r : Bool) (w : World) (hr1 : Kd.C Kd.string w A1 l1.length l1) (hc1 : l1.length ≤ c1) (hG : TabOk w) (h : list_Has.f a0 l1 = some r) :
    Calls Tryd.prog 35 #[.string a0, .slice A1 l1.length c1] w fun e w' => e = .returned (.bool r) ∧ Below w.heap.size w w' := by
  unfold list_Has.f at h
  split at h
  · rename_i hs
    injection h with h
    subst h
    exact callsIn_wide.1 (Has_in 7 (Nat.le_refl _) a0 hs.1 A1 c1 l1 hs.2 hc1 w hG hr1)
  · cases h
def list_Codings.f (l0 : List ByteArray) : Option ((List ByteArray) × Int) := if sumS l0 ≤ 1000000 then some (codR l0) else none
def list_Number.f (a0 : ByteArray) : Option (Int × Int) := if a0.size ≤ 140737488355328 then some (numR a0) else none
end Go.Proofs.YtofegjgiocljlaaDoorH
end
section
namespace Go.Proofs.YtofegjgiocljlaaDoor.Pr
open Go.RowKit Go.Proofs.YtofegjgiocljlaaDoorH Go.Proofs.YtofegjgiocljlaaDoorW.PrintWords Go.Proofs.YtofegjgiocljlaaDoorW.PrintLast Go.Proofs.YtofegjgiocljlaaDoorW.PrintMore
attribute [local go_sem] max2_int min2_int max_two min_two max_three min_three max_four min_four   -- for this text's walks alone
set_option linter.unusedVariables false
set_option linter.unusedSimpArgs false
def errW : Option Int → Value
  | none => .nilIface
  | some c => .iface 0 (.int .i64 c)
theorem errW_none : errW none = .nilIface := rfl
theorem errW_some (c : Int) : errW (some c) = .iface 0 (.int .i64 c) := rfl
theorem info9 : (Tryd.prog.info? 9).map (fun i => (i.zero, i.size, i.bytes)) = some (some (.string ⟨#[]⟩), 1, 16) := by kernel_rfl
structure S37 where
  f0 : ByteArray
  f1 : ByteArray
def z37 : S37 := ⟨(⟨#[]⟩ : ByteArray), (⟨#[]⟩ : ByteArray)⟩
def k37 : Kd S37 := Kd.iso (Kd.pair Kd.string Kd.string) (fun x : S37 => (x.f0, x.f1))
theorem k37_open {w : World} {x : S37} {cs : List Value} (h : k37.K w x cs) : cs = [.string x.f0, .string x.f1] := by
  obtain ⟨_, _, rfl, rfl, rfl⟩ := h
  exact rfl
theorem k37_mk (w : World) (x : S37)  : k37.K w x [.string x.f0, .string x.f1] := ⟨[.string x.f0], [.string x.f1], rfl, rfl, rfl⟩
theorem k37_mkM (w : World) (base : Nat) (ok : Nat → Prop) (x : S37)  : k37.M w base ok x [.string x.f0, .string x.f1] := ⟨[.string x.f0], [.string x.f1], rfl, rfl, rfl⟩
def rd_T37 (xs : List S37) (i : Int) : S37 := xs.getD i.toNat z37
theorem at_T37 {w : World} {A : Option Addr} {n : Nat} {xs : List S37} (h : Kd.C k37 w A n xs) (i : Int) (h0 : 0 ≤ i) (h1 : i < n) : ∃ ad , A = some ad ∧ w.cell? (ad.add (i.toNat * 2)) = some (.string (rd_T37 xs i).f0) ∧ w.cell? ⟨(ad.add (i.toNat * 2)).block, (ad.add (i.toNat * 2)).off + 1, none⟩ = some (.string (rd_T37 xs i).f1) := by
  obtain ⟨ad, c, e, _, hK, hc0⟩ := Kd.C_get h z37 i h0 h1
  have hc : ∀ j u, c[j]? = some u → w.cell? (ad.add (i.toNat * 2 + j)) = some u := hc0
  obtain rfl := k37_open hK
  exact ⟨ad, e, hc 0 _ rfl, by rw [← add_field _ _ 1 (by omega)]; exact hc 1 _ rfl⟩
end Go.Proofs.YtofegjgiocljlaaDoor.Pr
end
section
namespace Go.Proofs.YtofegjgiocljlaaDoorH
open Go.RowKit Go.Proofs.YtofegjgiocljlaaDoorW.PrintWords Go.Proofs.YtofegjgiocljlaaDoorW.PrintLast Go.Proofs.YtofegjgiocljlaaDoorW.PrintMore Go.Proofs.YtofegjgiocljlaaDoor.Pr
theorem filter_take_length {α : Type} (p : α → Bool) (l : List α) (k : Nat) : ((l.take k).filter p).length ≤ l.length :=
  Nat.le_trans (List.length_filter_le _ _) (by rw [List.length_take]; omega)
set_option maxHeartbeats 1600000 in
set_option maxRecDepth 100000 in
theorem chosenS_calls (F G : Nat) (pb : Addr) (p : S37 → Bool) (m : S37 → ByteArray) (A0 : Option Addr) (c0 : Nat) (l : List S37) (w : World)
    (hr : Kd.C k37 w A0 l.length l) (_hc : l.length ≤ c0) (hn : l.length < 8796093022208)
    (eF : ∀ args w, (callFunc F args).run Tryd.prog w = .ok (.enter F args) w) (eG : ∀ args w, (callFunc G args).run Tryd.prog w = .ok (.enter G args) w)
    (hF : ∀ x ∈ l, ∀ W, Below w.heap.size w W → Calls Tryd.prog F #[.agg #[.string x.f0, .string x.f1], .pointer (some pb)] W fun e W' => e = .returned (.bool (p x)) ∧ Below W.heap.size W W')
    (hG : ∀ x ∈ l, ∀ W, Calls Tryd.prog G #[.agg #[.string x.f0, .string x.f1]] W fun e W' => e = .returned (.string (m x)) ∧ Below W.heap.size W W') :
    Calls Tryd.prog 80 #[.slice A0 l.length c0, .func (.func F) #[] #[.pointer (some pb)], .func (.func G) #[] #[]] w fun e w' =>
      ∃ v, e = .returned v ∧ Kd.R Kd.string 9 w' w.heap.size (fun _ => True) v ((l.filter p).map m) ∧ Below w.heap.size w w' := by
  have HR := Aside0.mk hr
  have HF := Aside0.mk hF
  have HG := Aside0.mk hG
  have HN := Aside0.mk hn
  clear hr hF hG
  go_enter Tryd.func80, Tryd.ntmps80
  go_wp2
  go_loopw [7, 12] (fun v7 v12 wr => ∃ k : Nat, k ≤ l.length ∧ v12 = .int .i64 k ∧ Aside0 (Kd.R Kd.string 9 wr w.heap.size (fun _ => True) v7 (((l.take k).filter p).map m)) ∧ Aside0 (Below w.heap.size w wr)) (fun _ v12 _ => l.length - (intOf v12).toNat)
  case atStart => exact ⟨0, Nat.zero_le _, rfl, ⟨Kd.R_nil _ _ _ _ _⟩, ⟨Below.refl _ _⟩⟩
  case round =>
    obtain ⟨k, hk, rfl, ho, hb⟩ := hrel
    by_cases hlt : k < l.length
    · obtain ⟨ad, e, hx0, hx1⟩ := at_T37 HR.out (k : Int) (by omega) (by omega)
      cases e
      have hx0 := (hb.out.cell (World.block_lt_of_cell? w _ hx0)).trans hx0
      have hx1 := (hb.out.cell (World.block_lt_of_cell? w _ hx1)).trans hx1
      have HX := Aside0.mk (mem_getD l z37 k hlt)
      have HT := Aside0.mk (take_one l z37 k hlt)
      have HLEN := Aside0.mk (filter_take_length p l k)
      unfold rd_T37 at hx0 hx1
      rw [Int.toNat_natCast] at hx0 hx1
      generalize l.getD k z37 = x at *
      go_wp2_with fail
      refine (HF.out x HX.out _ (hb.out.alloc hb.out.size _)).mono ?_
      rintro e w1 ⟨rfl, b1⟩
      have B1 := Aside0.mk ((hb.out.alloc hb.out.size _).trans (b1.mono (Nat.le_trans hb.out.size (by simp))))
      have O1 := Aside0.mk (Kd.R_below (Kd.R_alloc ho.out _) b1)
      have y0 := pw_cell_below b1 (show (wr.alloc (.cells #[.string x.f0, .string x.f1] 37)).cell? ⟨wr.heap.size, 0, none⟩ = some (.string x.f0) by simp)
      have y1 := pw_cell_below b1 (show (wr.alloc (.cells #[.string x.f0, .string x.f1] 37)).cell? ⟨wr.heap.size, 1, none⟩ = some (.string x.f1) by simp)
      clear b1 hx0 hx1
      cases hp : p x with
      | true =>
        have HP := Aside0.mk hp
        clear hp
        go_wp2_with fail
        refine (HG.out x HX.out _).mono ?_
        rintro e w2 ⟨rfl, b2⟩
        have B2 := Aside0.mk (B1.out.trans (b2.mono B1.out.size))
        have O2 := Aside0.mk (Kd.R_below O1.out b2)
        clear b2 y0 y1
        go_wp2_with (first | ((with_reducible refine gate_builtin (b := .append) (xs := #[.tmp 19, .tmp 23]) rfl ?_); at_builtin; refine Kd.R_append Kd.string (w0 := w) w.heap.size rfl (.tmp 19) (.tmp 23) 40 9 (.string ⟨#[]⟩) 16 rfl Tryd.underlying40 info9 rfl (by decide) (by omega) u7 (((l.take k).filter p).map m) (m x) [.string (m x)] (fun _ => True) (fun _ => False) rfl rfl ?aP (fun _ hk => hk.elim) ?aF ?aO ?aB ?aS ?aL ?_; (case aP => exact rfl); (case aB => exact B2.out); (case aF => exact (fun _ _ => trivial)); (case aO => exact O2.out); (case aS => exact B2.out.size); (case aL => have := HLEN.out; have := HN.out; rw [List.length_map]; omega); intro v3 w3 ho3 hb3 hg3 hat3; have O3 := Aside0.mk ho3; have B3 := Aside0.mk hb3; clear ho3 hb3 hg3 hat3))
        go_roundw
        case rel => exact ⟨k + 1, by omega, by go_num, ⟨by rw [HT.out, List.filter_append, List.map_append, List.filter_cons_of_pos HP.out]; exact O3.out⟩, B3⟩
        case measure => simp [intOf]; omega
      | false =>
        have HP := Aside0.mk hp
        clear hp
        go_wp2
        go_roundw
        case rel => exact ⟨k + 1, by omega, by go_num, ⟨by rw [HT.out, List.filter_append, List.map_append, List.filter_cons_of_neg (by simp [HP.out])]; simpa using O1.out⟩, B1⟩
        case measure => simp [intOf]; omega
    · have hke : k = l.length := by omega
      subst hke
      rw [List.take_length] at ho
      go_wp2
      go_ret
      exact ⟨_, rfl, ho.out, hb.out⟩
end Go.Proofs.YtofegjgiocljlaaDoorH
end
section
namespace Go.Proofs.YtofegjgiocljlaaDoorH
open Go.RowKit Go.Proofs.YtofegjgiocljlaaDoorW.PrintWords Go.Proofs.YtofegjgiocljlaaDoorW.PrintLast Go.Proofs.YtofegjgiocljlaaDoorW.PrintMore Go.Proofs.YtofegjgiocljlaaDoor.Pr
def isB (x : S37) (n : ByteArray) : Bool := alikeB x.f0 n
set_option maxHeartbeats 800000 in
set_option maxRecDepth 100000 in
theorem is_calls (x0 x1 n : ByteArray) (w : World) (ha : x0.size ≤ 140737488355328) (hb : n.size ≤ 140737488355328) (hG : TabOk w) :
    Calls Tryd.prog 82 #[.agg #[.string x0, .string x1], .string n] w fun e w' => e = .returned (.bool (alikeB x0 n)) ∧ Below w.heap.size w w' := by
  have HG := Aside0.mk hG
  clear hG
  go_enter Tryd.func82, Tryd.ntmps82
  go_wp2_with fail
  refine (alike_calls x0 n _ ha hb (HG.out.below (below_alloc (Below.refl _ _) _))).mono ?_
  rintro e w1 ⟨rfl, b1⟩
  have B1 := Aside0.mk (below_step (below_alloc (Below.refl w.heap.size w) _) b1)
  clear b1
  go_wp2
  go_ret
  exact ⟨rfl, B1.out⟩
set_option maxHeartbeats 800000 in
set_option maxRecDepth 100000 in
theorem get1_calls (x : S37) (n : ByteArray) (pb : Addr) (w : World) (ha : x.f0.size ≤ 140737488355328) (hb : n.size ≤ 140737488355328) (hG : TabOk w) (hp : w.cell? pb = some (.string n)) :
    Calls Tryd.prog 81 #[.agg #[.string x.f0, .string x.f1], .pointer (some pb)] w fun e w' => e = .returned (.bool (isB x n)) ∧ Below w.heap.size w w' := by
  have HG := Aside0.mk hG
  have hp1 := pw_cell_below (below_alloc (Below.refl w.heap.size w) (.cells #[.string x.f0, .string x.f1] 37)) hp
  clear hG hp
  go_enter Tryd.func81, Tryd.ntmps81
  go_wp2_with fail
  refine (is_calls x.f0 x.f1 n _ ha hb (HG.out.below (below_alloc (Below.refl _ _) _))).mono ?_
  rintro e w1 ⟨rfl, b1⟩
  have B1 := Aside0.mk (below_step (below_alloc (Below.refl w.heap.size w) _) b1)
  clear b1
  go_wp2
  go_ret
  exact ⟨rfl, B1.out⟩
set_option maxHeartbeats 800000 in
set_option maxRecDepth 100000 in
theorem get2_calls (x : S37) (w : World) :
    Calls Tryd.prog 83 #[.agg #[.string x.f0, .string x.f1]] w fun e w' => e = .returned (.string x.f1) ∧ Below w.heap.size w w' := by
  go_enter Tryd.func83, Tryd.ntmps83
  go_wp2
  go_ret
  exact ⟨rfl, below_alloc (Below.refl _ _) _⟩
def fitF (l : List S37) : Bool := l.all fun x => decide (x.f0.size ≤ 140737488355328)
theorem fitF_at {l : List S37} (h : fitF l = true) (x : S37) (hx : x ∈ l) : x.f0.size ≤ 140737488355328 := of_decide_eq_true (List.all_eq_true.1 h x hx)
def getL (l : List S37) (n : ByteArray) : List ByteArray := (l.filter fun x => isB x n).map fun x => x.f1
set_option maxHeartbeats 800000 in
set_option maxRecDepth 100000 in
theorem get_calls (A0 : Option Addr) (c0 : Nat) (l : List S37) (n : ByteArray) (w : World) (hr : Kd.C k37 w A0 l.length l) (hc : l.length ≤ c0)
    (hn : l.length < 8796093022208) (hl : fitF l = true) (hb : n.size ≤ 140737488355328) (hG : TabOk w) :
    Calls Tryd.prog 75 #[.slice A0 l.length c0, .string n] w fun e w' => ∃ v, e = .returned v ∧ Kd.R Kd.string 9 w' w.heap.size (fun _ => True) v (getL l n) ∧ Below w.heap.size w w' := by
  have HB0 := Aside0.mk (below_alloc (Below.refl w.heap.size w) (.cells #[.string n] 9))
  have hp0 : (w.alloc (.cells #[.string n] 9)).cell? ⟨w.heap.size, 0, none⟩ = some (.string n) := by simp
  have H := Aside0.mk (chosenS_calls 81 83 ⟨w.heap.size, 0, none⟩ (fun x => isB x n) (fun x => x.f1) A0 c0 l (w.alloc (.cells #[.string n] 9))
    (Kd.C_below hr HB0.out) hc hn (enters_ Tryd.func81 (by kernel_rfl) rfl) (enters_ Tryd.func83 (by kernel_rfl) rfl)
    (fun x hx W hW => get1_calls x n _ W (fitF_at hl x hx) hb ((hG.below HB0.out).below hW) (pw_cell_below hW hp0))
    (fun x _ W => get2_calls x W))
  clear hr hc hn hl hb hG hp0
  go_enter Tryd.func75, Tryd.ntmps75
  go_wp2_with fail
  refine H.out.mono ?_
  rintro e w1 ⟨v, rfl, ho, b1⟩
  have O1 := Aside0.mk (Kd.R_lower (base' := w.heap.size) ho (by simp))
  have B1 := Aside0.mk (below_step HB0.out b1)
  clear ho b1 H
  go_wp2
  go_ret
  exact ⟨v, rfl, O1.out, B1.out⟩
def field_Get.f (l0 : List S37) (a1 : ByteArray) : Option (List ByteArray) := if (decide (l0.length < 8796093022208) && fitF l0 && decide (a1.size ≤ 140737488355328)) = true then some (getL l0 a1) else none
theorem field_Get.calls (A0 : Option Addr) (c0 : Nat) (l0 : List S37) (a1 : ByteArray) (r : List ByteArray) (w : World) (hr0 : Kd.C k37 w A0 l0.length l0) (hc0 : l0.length ≤ c0) (hG : TabOk w) (h : field_Get.f l0 a1 = some r) :
    Calls Tryd.prog 75 #[.slice A0 l0.length c0, .string a1] w fun e w' => ∃ v0_ : Value, e = .returned (v0_) ∧ Kd.R Kd.string 9 w' w.heap.size (fun _ => True) v0_ r ∧ Below w.heap.size w w' := by
  unfold field_Get.f at h
  split at h
  · rename_i hh
    rw [Bool.and_eq_true, Bool.and_eq_true] at hh
    injection h with h
    subst h
    exact get_calls A0 c0 l0 a1 w hr0 hc0 (of_decide_eq_true hh.1.1) hh.1.2 (of_decide_eq_true hh.2) hG
  · cases h
def fitS (l : List ByteArray) : Bool := l.all fun x => decide (x.size ≤ 140737488355328)
def namedB (names : List ByteArray) (x : S37) : Bool := names.any fun n => isB x n
def withoutL (l : List S37) (names : List ByteArray) : List S37 := l.filter fun x => !(namedB names x)
def field_Without.f (l0 : List S37) (l1 : List ByteArray) : Option (List S37) := if (decide (l0.length < 4398046511104) && fitF l0 && decide (l1.length < 8796093022208) && fitS l1) = true then some (withoutL l0 l1) else none
end Go.Proofs.YtofegjgiocljlaaDoorH
end
section
namespace Go.Proofs.YtofegjgiocljlaaDoorH
open Go.RowKit Go.Proofs.YtofegjgiocljlaaDoorW.PrintWords Go.Proofs.YtofegjgiocljlaaDoorW.PrintLast Go.Proofs.YtofegjgiocljlaaDoorW.PrintMore
theorem drop_cons {α : Type} (l : List α) (d : α) (i : Nat) (h : i < l.length) : l.drop i = l.getD i d :: l.drop (i + 1) := by
  rw [List.drop_eq_getElem_cons h]
  simp [List.getD_eq_getElem?_getD, h]
theorem wrapN (a b : Nat) (h : a + b < 4611686018427387904) : wrap64 ((a : Int) + (b : Int)) = ((a + b : Nat) : Int) := by unfold wrap64; omega
theorem wrapS (a : Nat) (h : a < 4611686018427387904) : wrap64 ((a : Int) + 1) = ((a + 1 : Nat) : Int) := by unfold wrap64; omega
end Go.Proofs.YtofegjgiocljlaaDoorH
end
section
namespace Go.Proofs.YtofegjgiocljlaaDoorH
open Go.RowKit Go.Proofs.YtofegjgiocljlaaDoorW.PrintWords Go.Proofs.YtofegjgiocljlaaDoorW.PrintLast Go.Proofs.YtofegjgiocljlaaDoorW.PrintMore Go.Proofs.YtofegjgiocljlaaDoor.Pr
abbrev Fld := S37
def Small1 (l : List Fld) : Prop := ∀ y ∈ l, y.f0.size ≤ 140737488351232 ∧ y.f1.size ≤ 140737488351232
def sumF (l : List Fld) : Nat := (l.map fun x => x.f0.size + x.f1.size + 1).sum
theorem sumF_cons (x : Fld) (l : List Fld) : sumF (x :: l) = (x.f0.size + x.f1.size + 1) + sumF l := by simp [sumF]
theorem sumF_length : ∀ l : List Fld, l.length ≤ sumF l
  | [] => Nat.le_refl _
  | x :: l => by
    have := sumF_length l
    rw [sumF_cons, List.length_cons]
    omega
theorem sumF_at : ∀ (l : List Fld) (x : Fld), x ∈ l → x.f0.size + x.f1.size + 1 ≤ sumF l
  | y :: l, x, h => by
    rw [sumF_cons]
    rcases List.mem_cons.1 h with rfl | h
    · omega
    · have := sumF_at l x h
      omega
theorem rd_nat (l : List Fld) (i : Nat) : rd_T37 l (i : Int) = l.getD i z37 := by
  unfold rd_T37
  rw [Int.toNat_natCast]
theorem field_Get_eq (l : List Fld) (n : ByteArray) (hl : Small1 l) (hn : n.size ≤ 140737488351232) (hc : l.length ≤ 100000) : field_Get.f l n = some (getL l n) := by
  unfold field_Get.f
  have hf : fitF l = true := List.all_eq_true.2 fun x hx => decide_eq_true (by have := (hl x hx).1; omega)
  rw [hf, decide_eq_true (by omega), decide_eq_true (by omega)]
  rfl
end Go.Proofs.YtofegjgiocljlaaDoorH
end
section
namespace Go.Proofs.YtofegjgiocljlaaDoor.Pr
open Go.RowKit Go.Proofs.YtofegjgiocljlaaDoorH Go.Proofs.YtofegjgiocljlaaDoorW.PrintWords Go.Proofs.YtofegjgiocljlaaDoorW.PrintLast Go.Proofs.YtofegjgiocljlaaDoorW.PrintMore
attribute [local go_sem] max2_int min2_int max_two min_two max_three min_three max_four min_four   -- for this text's walks alone
set_option linter.unusedVariables false
set_option linter.unusedSimpArgs false
def reuse_Well.f (a0_0 : Int) (a0_1 : Int) (a0_2 : Int) (a0_3 : Int) (a0_4 : Int) (a0_5 : Int) (l0_6 : List (S37)) : Option (Bool) := if a0_0 = 1 then (some true) else (if a0_0 = 0 then (some (a0_1 == 0)) else (some false))
set_option maxHeartbeats 8000000 in
set_option maxRecDepth 100000 in
theorem reuse_Well.calls (a0_0 : Int) (a0_1 : Int) (a0_2 : Int) (a0_3 : Int) (a0_4 : Int) (a0_5 : Int) (A0_6 : Option Addr) (c0_6 : Nat) (l0_6 : List (S37)) (r : Bool) (w : World) (hr0_6 : Kd.C k37 w A0_6 l0_6.length l0_6) (hc0_6 : l0_6.length ≤ c0_6) (hG : TabOk w) (h : reuse_Well.f a0_0 a0_1 a0_2 a0_3 a0_4 a0_5 l0_6 = some r) :
    Calls Tryd.prog 23 #[.agg #[.int .i64 a0_0, .int .i64 a0_1, .int .u64 a0_2, .int .i64 a0_3, .int .u64 a0_4, .int .i64 a0_5, .slice A0_6 l0_6.length c0_6]] w fun e w' => e = .returned (.bool r) ∧ Below w.heap.size w w' := by
  have hu33 := Tryd.underlying33
  have HR0_6 := Aside0.mk hr0_6
  have HC0_6 := Aside0.mk hc0_6
  clear hr0_6 hc0_6
  have HB := Aside0.mk (Below.refl w.heap.size w)
  have H : (if a0_0 = 1 then (some true) else (if a0_0 = 0 then (some (a0_1 == 0)) else (some false))) = some r := h
  clear h
  by_cases c2 : a0_0 = 1
  · rw [if_pos c2] at H
    have c2b0 : (a0_0 == 1) = true := beq_iff_eq.mpr c2
    have c2b1 : (a0_0 != 1) = false := bne_eq_false_iff_eq.mpr c2
    clear c2
    obtain rfl := Option.some.inj H
    go_enter Tryd.func23, Tryd.ntmps23
    go_wp2_with (first | ((with_reducible refine gate_dst (N := 1) rfl ?_); refine box_event ?hg (N := 1) ?hd (cs := #[.int .i64 a0_0, .int .i64 a0_1, .int .u64 a0_2, .int .i64 a0_3, .int .u64 a0_4, .int .i64 a0_5, .slice A0_6 l0_6.length c0_6]) (t := 33) ?hr ?_; (case hd => rfl); (case hg => rfl); (case hr => first | (go_simp; done) | (go_simp; rfl)); intro gb236 hg w3 hbox hb; have n0_ := Aside0.mk (below_step (by repeat (first | (with_reducible first | exact HB.out | apply below_alloc | apply pw_below_drewN | apply below_drew1) | exact HB.out)) hb); have n1_ := Aside0.mk (hbox); have n2_ := Aside0.mk ((by rw [hg]; exact (below_size (by repeat (first | (with_reducible first | exact HB.out | apply below_alloc | apply pw_below_drewN | apply below_drew1) | exact HB.out))) : w.heap.size ≤ gb236)); have n3_ := Aside0.mk ((by rw [hg]; exact (below_size (by repeat (first | (with_reducible first | exact HB.out | apply below_alloc | apply pw_below_drewN | apply below_drew1) | exact HB.out))) : w.heap.size ≤ gb236)); clear HB; have HB := n0_; have BK236 := n1_; have GW236 := n2_; have GE236 := n3_; clear n0_ n1_ n2_ n3_; clear hb hbox hg; have hcz4_0 : w3.cell? ⟨gb236, 0, none⟩ = some (.int .i64 a0_0) := (blk_cell BK236.out 0).trans rfl; have hcz4_1 : w3.cell? ⟨gb236, 1, none⟩ = some (.int .i64 a0_1) := (blk_cell BK236.out 1).trans rfl; have hcz4_2 : w3.cell? ⟨gb236, 2, none⟩ = some (.int .u64 a0_2) := (blk_cell BK236.out 2).trans rfl; have hcz4_3 : w3.cell? ⟨gb236, 3, none⟩ = some (.int .i64 a0_3) := (blk_cell BK236.out 3).trans rfl; have hcz4_4 : w3.cell? ⟨gb236, 4, none⟩ = some (.int .u64 a0_4) := (blk_cell BK236.out 4).trans rfl; have hcz4_5 : w3.cell? ⟨gb236, 5, none⟩ = some (.int .i64 a0_5) := (blk_cell BK236.out 5).trans rfl; have hcz4_6 : w3.cell? ⟨gb236, 6, none⟩ = some (.slice A0_6 l0_6.length c0_6) := (blk_cell BK236.out 6).trans rfl; have hfz4_0 := blk_frozen BK236.out 0; have hfz4_1 := blk_frozen BK236.out 1; have hfz4_2 := blk_frozen BK236.out 2; have hfz4_3 := blk_frozen BK236.out 3; have hfz4_4 := blk_frozen BK236.out 4; have hfz4_5 := blk_frozen BK236.out 5; have hfz4_6 := blk_frozen BK236.out 6))
    go_ret
    exact ⟨by first | rfl | (simp [errW_none, errW_some] <;> rfl) | (simp [*, errW_none, errW_some] <;> rfl), by repeat (first | (with_reducible first | exact HB.out | apply below_alloc | apply pw_below_drewN | apply below_drew1 | refine below_set ?_ GE236.out) | exact HB.out)⟩
  · rw [if_neg c2] at H
    have c2b0 : (a0_0 == 1) = false := beq_eq_false_iff_ne.mpr c2
    have c2b1 : (a0_0 != 1) = true := bne_iff_ne.mpr c2
    by_cases c5 : a0_0 = 0
    · rw [if_pos c5] at H
      have c5b0 : (a0_0 == 0) = true := beq_iff_eq.mpr c5
      have c5b1 : (a0_0 != 0) = false := bne_eq_false_iff_eq.mpr c5
      clear c5
      obtain rfl := Option.some.inj H
      go_enter Tryd.func23, Tryd.ntmps23
      go_wp2_with (first | ((with_reducible refine gate_dst (N := 1) rfl ?_); refine box_event ?hg (N := 1) ?hd (cs := #[.int .i64 a0_0, .int .i64 a0_1, .int .u64 a0_2, .int .i64 a0_3, .int .u64 a0_4, .int .i64 a0_5, .slice A0_6 l0_6.length c0_6]) (t := 33) ?hr ?_; (case hd => rfl); (case hg => rfl); (case hr => first | (go_simp; done) | (go_simp; rfl)); intro gb236 hg w6 hbox hb; have n0_ := Aside0.mk (below_step (by repeat (first | (with_reducible first | exact HB.out | apply below_alloc | apply pw_below_drewN | apply below_drew1) | exact HB.out)) hb); have n1_ := Aside0.mk (hbox); have n2_ := Aside0.mk ((by rw [hg]; exact (below_size (by repeat (first | (with_reducible first | exact HB.out | apply below_alloc | apply pw_below_drewN | apply below_drew1) | exact HB.out))) : w.heap.size ≤ gb236)); have n3_ := Aside0.mk ((by rw [hg]; exact (below_size (by repeat (first | (with_reducible first | exact HB.out | apply below_alloc | apply pw_below_drewN | apply below_drew1) | exact HB.out))) : w.heap.size ≤ gb236)); clear HB; have HB := n0_; have BK236 := n1_; have GW236 := n2_; have GE236 := n3_; clear n0_ n1_ n2_ n3_; clear hb hbox hg; have hcz7_0 : w6.cell? ⟨gb236, 0, none⟩ = some (.int .i64 a0_0) := (blk_cell BK236.out 0).trans rfl; have hcz7_1 : w6.cell? ⟨gb236, 1, none⟩ = some (.int .i64 a0_1) := (blk_cell BK236.out 1).trans rfl; have hcz7_2 : w6.cell? ⟨gb236, 2, none⟩ = some (.int .u64 a0_2) := (blk_cell BK236.out 2).trans rfl; have hcz7_3 : w6.cell? ⟨gb236, 3, none⟩ = some (.int .i64 a0_3) := (blk_cell BK236.out 3).trans rfl; have hcz7_4 : w6.cell? ⟨gb236, 4, none⟩ = some (.int .u64 a0_4) := (blk_cell BK236.out 4).trans rfl; have hcz7_5 : w6.cell? ⟨gb236, 5, none⟩ = some (.int .i64 a0_5) := (blk_cell BK236.out 5).trans rfl; have hcz7_6 : w6.cell? ⟨gb236, 6, none⟩ = some (.slice A0_6 l0_6.length c0_6) := (blk_cell BK236.out 6).trans rfl; have hfz7_0 := blk_frozen BK236.out 0; have hfz7_1 := blk_frozen BK236.out 1; have hfz7_2 := blk_frozen BK236.out 2; have hfz7_3 := blk_frozen BK236.out 3; have hfz7_4 := blk_frozen BK236.out 4; have hfz7_5 := blk_frozen BK236.out 5; have hfz7_6 := blk_frozen BK236.out 6))
      go_ret
      exact ⟨by first | rfl | (simp [errW_none, errW_some] <;> rfl) | (simp [*, errW_none, errW_some] <;> rfl), by repeat (first | (with_reducible first | exact HB.out | apply below_alloc | apply pw_below_drewN | apply below_drew1 | refine below_set ?_ GE236.out) | exact HB.out)⟩
    · rw [if_neg c5] at H
      have c5b0 : (a0_0 == 0) = false := beq_eq_false_iff_ne.mpr c5
      have c5b1 : (a0_0 != 0) = true := bne_iff_ne.mpr c5
      obtain rfl := Option.some.inj H
      go_enter Tryd.func23, Tryd.ntmps23
      go_wp2_with (first | ((with_reducible refine gate_dst (N := 1) rfl ?_); refine box_event ?hg (N := 1) ?hd (cs := #[.int .i64 a0_0, .int .i64 a0_1, .int .u64 a0_2, .int .i64 a0_3, .int .u64 a0_4, .int .i64 a0_5, .slice A0_6 l0_6.length c0_6]) (t := 33) ?hr ?_; (case hd => rfl); (case hg => rfl); (case hr => first | (go_simp; done) | (go_simp; rfl)); intro gb236 hg w8 hbox hb; have n0_ := Aside0.mk (below_step (by repeat (first | (with_reducible first | exact HB.out | apply below_alloc | apply pw_below_drewN | apply below_drew1) | exact HB.out)) hb); have n1_ := Aside0.mk (hbox); have n2_ := Aside0.mk ((by rw [hg]; exact (below_size (by repeat (first | (with_reducible first | exact HB.out | apply below_alloc | apply pw_below_drewN | apply below_drew1) | exact HB.out))) : w.heap.size ≤ gb236)); have n3_ := Aside0.mk ((by rw [hg]; exact (below_size (by repeat (first | (with_reducible first | exact HB.out | apply below_alloc | apply pw_below_drewN | apply below_drew1) | exact HB.out))) : w.heap.size ≤ gb236)); clear HB; have HB := n0_; have BK236 := n1_; have GW236 := n2_; have GE236 := n3_; clear n0_ n1_ n2_ n3_; clear hb hbox hg; have hcz9_0 : w8.cell? ⟨gb236, 0, none⟩ = some (.int .i64 a0_0) := (blk_cell BK236.out 0).trans rfl; have hcz9_1 : w8.cell? ⟨gb236, 1, none⟩ = some (.int .i64 a0_1) := (blk_cell BK236.out 1).trans rfl; have hcz9_2 : w8.cell? ⟨gb236, 2, none⟩ = some (.int .u64 a0_2) := (blk_cell BK236.out 2).trans rfl; have hcz9_3 : w8.cell? ⟨gb236, 3, none⟩ = some (.int .i64 a0_3) := (blk_cell BK236.out 3).trans rfl; have hcz9_4 : w8.cell? ⟨gb236, 4, none⟩ = some (.int .u64 a0_4) := (blk_cell BK236.out 4).trans rfl; have hcz9_5 : w8.cell? ⟨gb236, 5, none⟩ = some (.int .i64 a0_5) := (blk_cell BK236.out 5).trans rfl; have hcz9_6 : w8.cell? ⟨gb236, 6, none⟩ = some (.slice A0_6 l0_6.length c0_6) := (blk_cell BK236.out 6).trans rfl; have hfz9_0 := blk_frozen BK236.out 0; have hfz9_1 := blk_frozen BK236.out 1; have hfz9_2 := blk_frozen BK236.out 2; have hfz9_3 := blk_frozen BK236.out 3; have hfz9_4 := blk_frozen BK236.out 4; have hfz9_5 := blk_frozen BK236.out 5; have hfz9_6 := blk_frozen BK236.out 6))
      go_ret
      exact ⟨by first | rfl | (simp [errW_none, errW_some] <;> rfl) | (simp [*, errW_none, errW_some] <;> rfl), by repeat (first | (with_reducible first | exact HB.out | apply below_alloc | apply pw_below_drewN | apply below_drew1 | refine below_set ?_ GE236.out) | exact HB.out)⟩
end Go.Proofs.YtofegjgiocljlaaDoor.Pr
end
section
namespace Go.Proofs.YtofegjgiocljlaaDoorH
open Go.RowKit Go.Shelf Go.Proofs.YtofegjgiocljlaaDoorW.PrintWords Go.Proofs.YtofegjgiocljlaaDoorW.PrintLast Go.Proofs.YtofegjgiocljlaaDoorW.PrintMore Go.Proofs.YtofegjgiocljlaaDoor.Pr
def nConn : ByteArray := ⟨#[67, 111, 110, 110, 101, 99, 116, 105, 111, 110]⟩
def wClose : ByteArray := ⟨#[99, 108, 111, 115, 101]⟩
theorem sumS_getR (n : ByteArray) : ∀ l : List Fld, sumS (getL l n) ≤ sumF l
  | [] => Nat.le_refl _
  | x :: l => by
    have ih := sumS_getR n l
    unfold getL at ih ⊢
    rw [sumF_cons]
    cases h : isB x n with
    | true => rw [List.filter_cons_of_pos (p := fun x => isB x n) h, List.map_cons, sumS_cons]; omega
    | false => rw [List.filter_cons_of_neg (p := fun x => isB x n) (by simp [h])]; omega
def closesB (l : List Fld) : Bool := hasB (itemsL (getL l nConn)) wClose
set_option maxHeartbeats 1600000 in
set_option maxRecDepth 100000 in
theorem lasts_calls (A : Option Addr) (c : Nat) (l : List Fld) (w : World) (hr : Kd.C k37 w A l.length l) (hc : l.length ≤ c) (hl : Small1 l) (hs : sumF l ≤ 3000) (hG : TabOk w) :
    Calls Tryd.prog 63 #[.slice A l.length c] w fun e w' => e = .returned (.bool (!(closesB l))) ∧ Below w.heap.size w w' := by
  have h1 := sumS_getR nConn l
  have hlen := sumF_length l
  have HF := Aside0.mk (field_Get_eq l nConn hl (by decide) (by omega))
  have HH := Aside0.mk (show list_Has.f wClose (getL l nConn) = some (closesB l) by unfold list_Has.f; rw [if_pos ⟨by decide, by omega⟩]; rfl)
  have HR := Aside0.mk hr
  have HC := Aside0.mk hc
  have HG := Aside0.mk hG
  clear hr hc hG h1 hlen
  go_enter Tryd.func63, Tryd.ntmps63
  go_wp2_with fail
  refine (field_Get.calls A c l nConn _ w HR.out HC.out HG.out HF.out).mono ?_
  rintro e w1 ⟨v, rfl, hR, b1⟩
  obtain ⟨A1, c1, rfl, hc1, hC1⟩ := Kd.R_reads hR
  have HR1 := Aside0.mk hC1
  have HC1 := Aside0.mk hc1
  have HG1 := Aside0.mk (HG.out.below b1)
  have B1 := Aside0.mk b1
  clear hR hC1 hc1 b1
  go_wp2_with fail
  refine (list_Has.calls wClose A1 c1 (getL l nConn) _ w1 HR1.out HC1.out HG1.out HH.out).mono ?_
  rintro e w2 ⟨rfl, b2⟩
  have B2 := Aside0.mk (B1.out.trans (b2.mono B1.out.size))
  clear b2
  go_wp2
  go_ret
  exact ⟨rfl, B2.out⟩
def wellB (h : Hf) : Bool := decide (h.o = 1) || decide (h.o = 0) && decide (h.ik = 0)
theorem well_eq (h : Hf) (l : List Fld) : reuse_Well.f h.o h.ik h.iz h.ok h.oz h.rest l = some (wellB h) := by
  unfold reuse_Well.f wellB
  by_cases h1 : h.o = 1
  · rw [if_pos h1, decide_eq_true h1]
    rfl
  · rw [if_neg h1, decide_eq_false h1]
    by_cases h0 : h.o = 0
    · rw [if_pos h0, decide_eq_true h0, Bool.false_or, Bool.true_and]
      congr 1
    · rw [if_neg h0, decide_eq_false h0]
      rfl
structure HfOk (w : World) (h : Hf) (l : List Fld) : Prop where
  n : h.n = l.length
  c : l.length ≤ h.c
  r : Kd.C k37 w h.A l.length l
  small : Small1 l
  sum : sumF l ≤ 3000
theorem HfOk.below {w w' : World} {h : Hf} {l : List Fld} (k : HfOk w h l) (hb : Below w.heap.size w w') : HfOk w' h l := ⟨k.n, k.c, Kd.C_below k.r hb, k.small, k.sum⟩
theorem heap_fld : Kd.Heap k37 := Kd.heap_iso _ (Kd.heap_pair Kd.heap_string Kd.heap_string)
def stB (q p : Hf) (lq lp : List Fld) : Nat → Bool
  | 0 => !(wellB q)
  | 1 => !(wellB p)
  | 2 => decide (p.ok = 3)
  | 3 => decide (p.ik = 3)
  | 4 => decide (p.rest ≠ 0)
  | _ => closesB lq || closesB lp
set_option maxHeartbeats 1600000 in
set_option maxRecDepth 100000 in
theorem question1 (o ik iz ok oz rest : Int) (A : Option Addr) (c : Nat) (lq : List Fld) (o' ik' iz' ok' oz' rest' : Int) (A' : Option Addr) (c' : Nat) (lp : List Fld) (W : World) (hr : Kd.C k37 W A lq.length lq) (hc : lq.length ≤ c) (hr' : Kd.C k37 W A' lp.length lp) (hc' : lp.length ≤ c') (hG : TabOk W) :
    Calls Tryd.prog 57 #[.agg #[.int .i64 o, .int .i64 ik, .int .u64 iz, .int .i64 ok, .int .u64 oz, .int .i64 rest, .slice A lq.length c], .agg #[.int .i64 o', .int .i64 ik', .int .u64 iz', .int .i64 ok', .int .u64 oz', .int .i64 rest', .slice A' lp.length c']] W fun e w' => e = .returned (.bool (!(wellB ⟨o, ik, iz, ok, oz, rest, A, lq.length, c⟩))) ∧ Below W.heap.size W w' := by
  have HB := Aside0.mk (show Below W.heap.size W ((W.alloc (.cells #[.int .i64 o, .int .i64 ik, .int .u64 iz, .int .i64 ok, .int .u64 oz, .int .i64 rest, .slice A lq.length c] 33)).alloc (.cells #[.int .i64 o', .int .i64 ik', .int .u64 iz', .int .i64 ok', .int .u64 oz', .int .i64 rest', .slice A' lp.length c'] 33)) from below_alloc (below_alloc (Below.refl _ _) _) _)
  have HR := Aside0.mk (Kd.C_below hr HB.out)
  have HC := Aside0.mk hc
  have HR' := Aside0.mk (Kd.C_below hr' HB.out)
  have HC' := Aside0.mk hc'
  have HG := Aside0.mk (hG.below HB.out)
  clear hr hc hr' hc' hG
  go_enter Tryd.func57, Tryd.ntmps57
  go_wp2_with fail
  refine (reuse_Well.calls o ik iz ok oz rest A c lq _ _ HR.out HC.out HG.out (well_eq ⟨o, ik, iz, ok, oz, rest, A, lq.length, c⟩ lq)).mono ?_
  rintro e w1 ⟨rfl, b1⟩
  have B1 := Aside0.mk (HB.out.trans (b1.mono HB.out.size))
  clear b1
  go_wp2
  go_ret
  exact ⟨rfl, B1.out⟩
set_option maxHeartbeats 1600000 in
set_option maxRecDepth 100000 in
theorem question2 (o ik iz ok oz rest : Int) (A : Option Addr) (c : Nat) (lq : List Fld) (o' ik' iz' ok' oz' rest' : Int) (A' : Option Addr) (c' : Nat) (lp : List Fld) (W : World) (hr : Kd.C k37 W A lq.length lq) (hc : lq.length ≤ c) (hr' : Kd.C k37 W A' lp.length lp) (hc' : lp.length ≤ c') (hG : TabOk W) :
    Calls Tryd.prog 58 #[.agg #[.int .i64 o, .int .i64 ik, .int .u64 iz, .int .i64 ok, .int .u64 oz, .int .i64 rest, .slice A lq.length c], .agg #[.int .i64 o', .int .i64 ik', .int .u64 iz', .int .i64 ok', .int .u64 oz', .int .i64 rest', .slice A' lp.length c']] W fun e w' => e = .returned (.bool (!(wellB ⟨o', ik', iz', ok', oz', rest', A', lp.length, c'⟩))) ∧ Below W.heap.size W w' := by
  have HB := Aside0.mk (show Below W.heap.size W ((W.alloc (.cells #[.int .i64 o, .int .i64 ik, .int .u64 iz, .int .i64 ok, .int .u64 oz, .int .i64 rest, .slice A lq.length c] 33)).alloc (.cells #[.int .i64 o', .int .i64 ik', .int .u64 iz', .int .i64 ok', .int .u64 oz', .int .i64 rest', .slice A' lp.length c'] 33)) from below_alloc (below_alloc (Below.refl _ _) _) _)
  have HR := Aside0.mk (Kd.C_below hr HB.out)
  have HC := Aside0.mk hc
  have HR' := Aside0.mk (Kd.C_below hr' HB.out)
  have HC' := Aside0.mk hc'
  have HG := Aside0.mk (hG.below HB.out)
  clear hr hc hr' hc' hG
  go_enter Tryd.func58, Tryd.ntmps58
  go_wp2_with fail
  refine (reuse_Well.calls o' ik' iz' ok' oz' rest' A' c' lp _ _ HR'.out HC'.out HG.out (well_eq ⟨o', ik', iz', ok', oz', rest', A', lp.length, c'⟩ lp)).mono ?_
  rintro e w1 ⟨rfl, b1⟩
  have B1 := Aside0.mk (HB.out.trans (b1.mono HB.out.size))
  clear b1
  go_wp2
  go_ret
  exact ⟨rfl, B1.out⟩
set_option maxHeartbeats 1600000 in
set_option maxRecDepth 100000 in
theorem question3 (o ik iz ok oz rest : Int) (A : Option Addr) (c : Nat) (lq : List Fld) (o' ik' iz' ok' oz' rest' : Int) (A' : Option Addr) (c' : Nat) (lp : List Fld) (W : World) :
    Calls Tryd.prog 59 #[.agg #[.int .i64 o, .int .i64 ik, .int .u64 iz, .int .i64 ok, .int .u64 oz, .int .i64 rest, .slice A lq.length c], .agg #[.int .i64 o', .int .i64 ik', .int .u64 iz', .int .i64 ok', .int .u64 oz', .int .i64 rest', .slice A' lp.length c']] W fun e w' => e = .returned (.bool (decide (ok' = 3))) ∧ Below W.heap.size W w' := by
  have HB := Aside0.mk (show Below W.heap.size W ((W.alloc (.cells #[.int .i64 o, .int .i64 ik, .int .u64 iz, .int .i64 ok, .int .u64 oz, .int .i64 rest, .slice A lq.length c] 33)).alloc (.cells #[.int .i64 o', .int .i64 ik', .int .u64 iz', .int .i64 ok', .int .u64 oz', .int .i64 rest', .slice A' lp.length c'] 33)) from below_alloc (below_alloc (Below.refl _ _) _) _)
  by_cases h : ok' = 3
  · subst h
    go_enter Tryd.func59, Tryd.ntmps59
    go_wp2
    go_ret
    exact ⟨rfl, HB.out⟩
  · have hb : (ok' == 3) = false := by rw [beq_eq_false_iff_ne]; exact h
    have hb2 : (ok' != 3) = true := by rw [bne_iff_ne]; exact h
    have hd : decide (ok' = 3) = false := by simp [h]
    rw [hd]
    clear hd h
    go_enter Tryd.func59, Tryd.ntmps59
    go_wp2
    go_ret
    exact ⟨rfl, HB.out⟩
set_option maxHeartbeats 1600000 in
set_option maxRecDepth 100000 in
theorem question4 (o ik iz ok oz rest : Int) (A : Option Addr) (c : Nat) (lq : List Fld) (o' ik' iz' ok' oz' rest' : Int) (A' : Option Addr) (c' : Nat) (lp : List Fld) (W : World) :
    Calls Tryd.prog 60 #[.agg #[.int .i64 o, .int .i64 ik, .int .u64 iz, .int .i64 ok, .int .u64 oz, .int .i64 rest, .slice A lq.length c], .agg #[.int .i64 o', .int .i64 ik', .int .u64 iz', .int .i64 ok', .int .u64 oz', .int .i64 rest', .slice A' lp.length c']] W fun e w' => e = .returned (.bool (decide (ik' = 3))) ∧ Below W.heap.size W w' := by
  have HB := Aside0.mk (show Below W.heap.size W ((W.alloc (.cells #[.int .i64 o, .int .i64 ik, .int .u64 iz, .int .i64 ok, .int .u64 oz, .int .i64 rest, .slice A lq.length c] 33)).alloc (.cells #[.int .i64 o', .int .i64 ik', .int .u64 iz', .int .i64 ok', .int .u64 oz', .int .i64 rest', .slice A' lp.length c'] 33)) from below_alloc (below_alloc (Below.refl _ _) _) _)
  by_cases h : ik' = 3
  · subst h
    go_enter Tryd.func60, Tryd.ntmps60
    go_wp2
    go_ret
    exact ⟨rfl, HB.out⟩
  · have hb : (ik' == 3) = false := by rw [beq_eq_false_iff_ne]; exact h
    have hb2 : (ik' != 3) = true := by rw [bne_iff_ne]; exact h
    have hd : decide (ik' = 3) = false := by simp [h]
    rw [hd]
    clear hd h
    go_enter Tryd.func60, Tryd.ntmps60
    go_wp2
    go_ret
    exact ⟨rfl, HB.out⟩
set_option maxHeartbeats 1600000 in
set_option maxRecDepth 100000 in
theorem question5 (o ik iz ok oz rest : Int) (A : Option Addr) (c : Nat) (lq : List Fld) (o' ik' iz' ok' oz' rest' : Int) (A' : Option Addr) (c' : Nat) (lp : List Fld) (W : World) :
    Calls Tryd.prog 61 #[.agg #[.int .i64 o, .int .i64 ik, .int .u64 iz, .int .i64 ok, .int .u64 oz, .int .i64 rest, .slice A lq.length c], .agg #[.int .i64 o', .int .i64 ik', .int .u64 iz', .int .i64 ok', .int .u64 oz', .int .i64 rest', .slice A' lp.length c']] W fun e w' => e = .returned (.bool (decide (rest' ≠ 0))) ∧ Below W.heap.size W w' := by
  have HB := Aside0.mk (show Below W.heap.size W ((W.alloc (.cells #[.int .i64 o, .int .i64 ik, .int .u64 iz, .int .i64 ok, .int .u64 oz, .int .i64 rest, .slice A lq.length c] 33)).alloc (.cells #[.int .i64 o', .int .i64 ik', .int .u64 iz', .int .i64 ok', .int .u64 oz', .int .i64 rest', .slice A' lp.length c'] 33)) from below_alloc (below_alloc (Below.refl _ _) _) _)
  by_cases h : rest' = 0
  · subst h
    go_enter Tryd.func61, Tryd.ntmps61
    go_wp2
    go_ret
    exact ⟨rfl, HB.out⟩
  · have hb : (rest' == 0) = false := by rw [beq_eq_false_iff_ne]; exact h
    have hb2 : (rest' != 0) = true := by rw [bne_iff_ne]; exact h
    have hd : decide (rest' ≠ 0) = true := by simp [h]
    rw [hd]
    clear hd h
    go_enter Tryd.func61, Tryd.ntmps61
    go_wp2
    go_ret
    exact ⟨rfl, HB.out⟩
set_option maxHeartbeats 1600000 in
set_option maxRecDepth 100000 in
theorem question6 (o ik iz ok oz rest : Int) (A : Option Addr) (c : Nat) (lq : List Fld) (o' ik' iz' ok' oz' rest' : Int) (A' : Option Addr) (c' : Nat) (lp : List Fld) (W : World) (hr : Kd.C k37 W A lq.length lq) (hc : lq.length ≤ c) (hr' : Kd.C k37 W A' lp.length lp) (hc' : lp.length ≤ c') (hG : TabOk W) (hs : Small1 lq) (hm : sumF lq ≤ 3000) (hs' : Small1 lp) (hm' : sumF lp ≤ 3000) :
    Calls Tryd.prog 62 #[.agg #[.int .i64 o, .int .i64 ik, .int .u64 iz, .int .i64 ok, .int .u64 oz, .int .i64 rest, .slice A lq.length c], .agg #[.int .i64 o', .int .i64 ik', .int .u64 iz', .int .i64 ok', .int .u64 oz', .int .i64 rest', .slice A' lp.length c']] W fun e w' => e = .returned (.bool (closesB lq || closesB lp)) ∧ Below W.heap.size W w' := by
  have HB := Aside0.mk (show Below W.heap.size W ((W.alloc (.cells #[.int .i64 o, .int .i64 ik, .int .u64 iz, .int .i64 ok, .int .u64 oz, .int .i64 rest, .slice A lq.length c] 33)).alloc (.cells #[.int .i64 o', .int .i64 ik', .int .u64 iz', .int .i64 ok', .int .u64 oz', .int .i64 rest', .slice A' lp.length c'] 33)) from below_alloc (below_alloc (Below.refl _ _) _) _)
  have HR := Aside0.mk (Kd.C_below hr HB.out)
  have HC := Aside0.mk hc
  have HR' := Aside0.mk (Kd.C_below hr' HB.out)
  have HC' := Aside0.mk hc'
  have HG := Aside0.mk (hG.below HB.out)
  clear hr hc hr' hc' hG
  have HL := Aside0.mk (fun w hr hG => lasts_calls A c lq w hr HC.out hs hm hG)
  have HL' := Aside0.mk (fun w hr hG => lasts_calls A' c' lp w hr HC'.out hs' hm' hG)
  clear hs hm hs' hm'
  obtain ⟨b, hb⟩ : ∃ b, closesB lq = b := ⟨_, rfl⟩
  obtain ⟨b', hb'⟩ : ∃ b, closesB lp = b := ⟨_, rfl⟩
  rw [hb] at HL
  rw [hb'] at HL'
  rw [hb, hb']
  clear hb hb'
  go_enter Tryd.func62, Tryd.ntmps62
  go_wp2_with fail
  refine (HL.out _ HR.out HG.out).mono ?_
  rintro e w1 ⟨rfl, b1⟩
  have B1 := Aside0.mk (HB.out.trans (b1.mono HB.out.size))
  have HR1 := Aside0.mk (Kd.C_below HR'.out b1)
  have HG1 := Aside0.mk (HG.out.below b1)
  have y := pw_cell_below b1 (show ((W.alloc (.cells #[.int .i64 o, .int .i64 ik, .int .u64 iz, .int .i64 ok, .int .u64 oz, .int .i64 rest, .slice A lq.length c] 33)).alloc (.cells #[.int .i64 o', .int .i64 ik', .int .u64 iz', .int .i64 ok', .int .u64 oz', .int .i64 rest', .slice A' lp.length c'] 33)).cell? ⟨W.heap.size + 1, 6, none⟩ = some (.slice A' lp.length c') by simp)
  clear b1
  cases b with
  | true =>
    go_wp2
    go_ret
    exact ⟨rfl, B1.out⟩
  | false =>
    go_wp2_with fail
    refine (HL'.out _ HR1.out HG1.out).mono ?_
    rintro e w2 ⟨rfl, b2⟩
    have B2 := Aside0.mk (B1.out.trans (b2.mono B1.out.size))
    clear b2
    cases b' with
    | true =>
      go_wp2
      go_ret
      exact ⟨rfl, B2.out⟩
    | false =>
      go_wp2
      go_ret
      exact ⟨rfl, B2.out⟩
theorem HfOk.lies {w W : World} {h : Hf} {l : List Fld} (k : HfOk w h l) (hL : Lies (fun b => b < w.heap.size) w W) : HfOk W h l := ⟨k.n, k.c, heap_fld.C (fun b hb => hL.same b hb hb) k.r, k.small, k.sum⟩
theorem stands (w : World) (q p : Hf) (lq lp : List Fld) (hq : HfOk w q lq) (hp : HfOk w p lp) (hG : TabOk w) : Stands w q p (stB q p lq lp) := by
  have key : ∀ W, Lies (fun b => b < w.heap.size) w W → HfOk W q lq ∧ HfOk W p lp ∧ TabOk W := fun W hL => ⟨hq.lies hL, hp.lies hL, TabOk.lies hG hL (fun k h => h) (Lies.refl _ _)⟩
  obtain ⟨o, ik, iz, ok, oz, rest, A, n, c⟩ := q
  obtain ⟨o', ik', iz', ok', oz', rest', A', n', c'⟩ := p
  obtain rfl : n = lq.length := hq.n
  obtain rfl : n' = lp.length := hp.n
  refine ⟨fun W hL => ?_, fun W hL => ?_, fun W hL => ?_, fun W hL => ?_, fun W hL => ?_, fun W hL => ?_⟩
  all_goals obtain ⟨h1, h2, h3⟩ := key W hL
  · exact question1 o ik iz ok oz rest A c lq o' ik' iz' ok' oz' rest' A' c' lp W h1.r h1.c h2.r h2.c h3
  · exact question2 o ik iz ok oz rest A c lq o' ik' iz' ok' oz' rest' A' c' lp W h1.r h1.c h2.r h2.c h3
  · exact question3 o ik iz ok oz rest A c lq o' ik' iz' ok' oz' rest' A' c' lp W
  · exact question4 o ik iz ok oz rest A c lq o' ik' iz' ok' oz' rest' A' c' lp W
  · exact question5 o ik iz ok oz rest A c lq o' ik' iz' ok' oz' rest' A' c' lp W
  · exact question6 o ik iz ok oz rest A c lq o' ik' iz' ok' oz' rest' A' c' lp W h1.r h1.c h2.r h2.c h3 h1.small h1.sum h2.small h2.sum
end Go.Proofs.YtofegjgiocljlaaDoorH
end
section
namespace Go.Proofs.YtofegjgiocljlaaDoorH
open Go Go.RowKit
theorem wpIn_range_put {F : Fence} {n : Nat} {P : Program} {α : Type} {f : Operand} {ps : Array Tmp} {assign body : Code} {Q : Exit → Act → World → Prop} {a : Act} {w : World}
    (hd : F.depth = none) (hro : F.round = none) (h1 : 1 ≤ n) {gf : Nat} {lb : Array Value} (hf : a.eval f = .func (.func gf) #[] lb) (hFg : F.fn gf) (eg : ∀ args w, (callFunc gf args).run P w = .ok (.enter gf args) w)
    {encs : α → Array Value} {Kz Z : Nat → Prop} {S Sp : List α → Prop} {w0 : World} (hseq : SeqO F (n - 1) P gf lb encs Kz Z S Sp w0)
    (hb0 : Below w0.heap.size w0 w) (hZ : ∀ r, Z r → r < w.heap.size) (hKz : ∀ r, Kz r → r < w.heap.size) (hps : ∀ x, (encs x).size = ps.size)
    (g0 : Option Nat) (hg0 : ∀ q, g0 = some q → ¬ Kz q ∧ q < w.heap.size) (I : List α → Option Nat → World → Prop) (Ix : Code → List α → Option Nat → World → Prop) (hI : Abd Z w.heap.size I) (hIx : ∀ c, Abd Z w.heap.size (Ix c)) (h0 : I [] g0 w)
    (hIg : ∀ pre g W q, I pre g W → g = some q → q < w.heap.size ∨ w.heap.size + 2 ≤ q) (hIxg : ∀ c pre g W q, Ix c pre g W → g = some q → q < w.heap.size ∨ w.heap.size + 2 ≤ q)
    (Ax : α → Act → World → Prop) (hAx : ∀ x a' W o, Ax x a' W → Ax x a' (W.putObj (w.heap.size + 1) o))
    (hassign : ∀ (l : Nat) (pre : List α) (x : α) (g : Option Nat) (W : World) (K : Act → World → Prop), w.heap.size + 2 ≤ W.heap.size → I pre g W → (∀ a' W', Spares (fun k => w.heap.size ≤ k ∨ Kz k) g g W W' → I pre g W' → Ax x a' W' → K a' W') →
      assign.wpIn (F.inRound l) (n - 1 - 1) P (Exit.then K (fun _ _ _ => False)) { tmps := (ps.zip (encs x)).foldl (fun t (p, v) => t.setIfInBounds p v) a.tmps, defers := [] } W)
    (hbody : ∀ (l : Nat) (pre : List α) (x : α) (g : Option Nat) (a' : Act) (W : World), w.heap.size + 2 ≤ W.heap.size → I pre g W → Ax x a' W → Sp (pre ++ [x]) → body.wpIn (F.inRound l) (n - 1 - 1) P (leftO (fun k => w.heap.size ≤ k ∨ Kz k) I Ix (pre ++ [x]) g W) a' W)
    (hdone : ∀ (D : Nat) (xs : List α) (g : Option Nat) (W : World), D = w.heap.size → S xs → I xs g W → W.heap[D]? = some (.deferred (some [])) → Q .normal { a with defers := { target := .collected D, args := #[] } :: a.defers } W)
    (hstop : ∀ (D : Nat) (c : Code) (pre : List α) (g : Option Nat) (W : World), D = w.heap.size → Sp pre → Ix c pre g W → W.heap[D]? = some (.deferred (some [])) → c.wpIn F n P Q { a with defers := { target := .collected D, args := #[] } :: a.defers } W) :
    (Code.rangeFunc f ps assign body).wpIn F n P Q a w := by
  refine wpIn_rangeFunc ?_
  intro fn hfn
  rw [hro]
  obtain ⟨rec, hrec⟩ : ∃ rec : LoopState → Option Code → Loop, rec = fun st pe => { state := st, pending := pe, fn, tmps := a.tmps, params := ps, assign, body, defers := w.heap.size } := ⟨_, rfl⟩
  obtain ⟨W1, hW1⟩ : ∃ W1, (w.alloc (.deferred (some []))).alloc (.loop (rec .ready none)) = W1 := ⟨_, rfl⟩
  have hsz : W1.heap.size = w.heap.size + 2 := by rw [← hW1, World.size_alloc, World.size_alloc]
  have hL1 : W1.heap[w.heap.size + 1]? = some (.loop (rec .ready none)) := by
    rw [← hW1]; have := World.alloc_heap_new (w.alloc (.deferred (some []))) (.loop (rec .ready none)); rwa [World.size_alloc] at this
  have hK1 : W1.heap[w.heap.size]? = some (.deferred (some [])) := by
    rw [← hW1]; exact (Below.heap_alloc _ _ _ (by simp)).trans (World.alloc_heap_new w _)
  have hI1 : I [] g0 W1 := by rw [← hW1]; exact hI.alloc _ (hI.alloc _ h0)
  have hb1 : Below w0.heap.size w0 W1 := by
    rw [← hW1]; exact hb0.trans ((((Below.refl _ w).alloc (Nat.le_refl _) _).alloc (by simp) _).mono hb0.size)
  refine ⟨w.heap.size + 1, [{ target := .collected w.heap.size, args := #[] }], W1, { target := .fn (.func gf) lb, args := #[.func (.yield (w.heap.size + 1)) #[] #[]] }, W1, gf,
    #[.func (.yield (w.heap.size + 1)) #[] #[]] ++ lb, W1, ?_, ?_, ?_, ?_, fun _ => h1, ?_⟩
  · rw [← hW1, hrec]; exact run_enterLoop_outer _ _ _ _ _
  · simp only [resolve, hf]
    simp [go_sem]
  · intro f' hf'; simp [Target.leads] at hf'; subst hf'; exact hFg
  · simp [invoke, go_sem, eg]
  · -- which blocks the iterator turns, said of the caller's side
    have hrow : ∀ {g : Option Nat} {row : Option Nat}, (∀ r, row = some r → (W1.heap.size ≤ r ∧ some r ≠ g) ∨ Z r) → (∀ r, row = some r → (w.heap.size ≤ r ∧ some r ≠ g) ∨ Z r) :=
      fun hr r e => (hr r e).elim (fun k => .inl ⟨by have := k.1; omega, k.2⟩) .inr
    have hlies : ∀ {A C : World} {g : Option Nat} {row : Option Nat} {k : Nat} {o : Obj}, A.grownBy C row → (∀ r, row = some r → (W1.heap.size ≤ r ∧ some r ≠ g) ∨ Z r) → w.heap.size ≤ k → k < W1.heap.size → A.heap[k]? = some o → C.heap[k]? = some o :=
      fun hg' hr h2 h3 hk => (hg'.block _ (Array.getElem?_eq_some_iff.1 hk).1 (fun e => (hr _ e.symm).elim (fun k => by have := k.1; omega) (fun k => by have := hZ _ k; omega))).trans hk
    refine (hseq (w.heap.size + 1)
      (fun pre g W => I pre g W ∧ W.heap[w.heap.size + 1]? = some (.loop (rec .ready none)) ∧ W.heap[w.heap.size]? = some (.deferred (some [])))
      (fun pre g W => ∃ c, Ix c pre g W ∧ W.heap[w.heap.size + 1]? = some (.loop (rec .done (some c))) ∧ W.heap[w.heap.size]? = some (.deferred (some [])))
      g0 W1 hb1
      (fun s g A B row hs hg' hr => ⟨hI s g A B row hs.1 hg' (hrow hr), hlies hg' hr (by omega) (by omega) hs.2.1, hlies hg' hr (by omega) (by omega) hs.2.2⟩)
      (fun s g A B row hs hg' hr => by
        obtain ⟨c, hc, hl, hk⟩ := hs
        exact ⟨c, hIx c s g A B row hc hg' (hrow hr), hlies hg' hr (by omega) (by omega) hl, hlies hg' hr (by omega) (by omega) hk⟩)
      (fun q e => ⟨(hg0 q e).1, by have := (hg0 q e).2; omega⟩) ?_ ⟨hI1, hL1, hK1⟩).mono ?_
    · -- one round
      rintro m pre x g W ⟨hi, hl, hk⟩ hlen
      have hlt : w.heap.size + 1 < W.heap.size := (Array.getElem?_eq_some_iff.1 hl).1
      have hy := run_yield (P := P) (args := encs x) hl (by rw [hrec]; exact hps x)
      rw [hrec] at hy
      refine ⟨fn, _, assign, body, hy, round_any hd (m := n - 1 - 1) (roundIn_of_wpIn hfn (hassign _ pre x g W _ hlt hi ?_))⟩
      clear hy
      intro a' Wa hsa hia hax
      have hgq : ∀ q, g = some q → q < w.heap.size ∨ w.heap.size + 2 ≤ q := fun q e => hIg pre g W q hi e
      have hl := (hsa.same _ (.inl (by omega)) hlt (fun e => by have := hgq _ e.symm; omega)).trans hl
      have hk := (hsa.same w.heap.size (.inl (Nat.le_refl _)) (by omega) (fun e => by have := hgq _ e.symm; omega)).trans hk
      have hlt2 : w.heap.size + 1 < Wa.heap.size := (Array.getElem?_eq_some_iff.1 hl).1
      refine ⟨_, run_beginRound hl (by rw [hrec]), ?_⟩
      obtain ⟨Wb, hWb⟩ : ∃ Wb, Wa.putObj (w.heap.size + 1) (.loop { rec .ready none with state := .busy }) = Wb := ⟨_, rfl⟩
      have hl2 : Wb.heap[w.heap.size + 1]? = some (.loop { rec .ready none with state := .busy }) := by rw [← hWb]; exact World.putObj_heap_same hlt2
      have hk2 : Wb.heap[w.heap.size]? = some (.deferred (some [])) := by rw [← hWb]; exact (World.putObj_heap_other (by omega)).trans hk
      have hne : some (w.heap.size + 1) ≠ g := fun e => by have := hgq _ e.symm; omega
      have hIb : I pre g Wb := by rw [← hWb]; exact hI.putObj _ hia (by omega) hne
      have hAb : Ax x a' Wb := by rw [← hWb]; exact hAx x a' _ _ hax
      have hzz : ∀ k, (W1.heap.size ≤ k ∨ Kz k) → (w.heap.size ≤ k ∨ Kz k) := fun k h => h.elim (fun h => .inl (by omega)) .inr
      have hsb : Spares (fun k => W1.heap.size ≤ k ∨ Kz k) g g Wa Wb := by
        rw [← hWb]; exact Spares.turned (grownBy_putObj' _ _ _) (fun j e hj => by cases e; rcases hj with h | h; exact absurd h (by omega); have := hKz _ h; omega)
      have hs2 : Spares (fun k => W1.heap.size ≤ k ∨ Kz k) g g W Wb := (hsa.imp (fun k h _ => hzz k h)).trans hsb
      rw [hWb]
      refine wpIn_mono (hbody _ pre x g a' _ (Array.getElem?_eq_some_iff.1 hl2).1 hIb hAb hlen) ?_
      have fin : ∀ (jump : Option Code) (g' : Option Nat) (W3 : World), Spares (fun k => w.heap.size ≤ k ∨ Kz k) g g' Wb W3 →
          (Instr.endRound (w.heap.size + 1) jump).run P W3 = .ok (.bool jump.isNone) (W3.putObj (w.heap.size + 1) (.loop (rec (if jump.isNone then .ready else .done) jump))) ∧
          (W3.putObj (w.heap.size + 1) (.loop (rec (if jump.isNone then .ready else .done) jump))).heap[w.heap.size + 1]? = some (.loop (rec (if jump.isNone then .ready else .done) jump)) ∧
          (W3.putObj (w.heap.size + 1) (.loop (rec (if jump.isNone then .ready else .done) jump))).heap[w.heap.size]? = some (.deferred (some [])) ∧
          Spares (fun k => W1.heap.size ≤ k ∨ Kz k) g g' W (W3.putObj (w.heap.size + 1) (.loop (rec (if jump.isNone then .ready else .done) jump))) := fun jump g' W3 hk3 => by
        have hl3 := (hk3.same _ (.inl (by omega)) (Array.getElem?_eq_some_iff.1 hl2).1 hne).trans hl2
        have hk4 := (hk3.same w.heap.size (.inl (Nat.le_refl _)) (Array.getElem?_eq_some_iff.1 hk2).1 (fun e => by have := hgq _ e.symm; omega)).trans hk2
        have := run_endRound (P := P) jump hl3
        rw [hrec] at this ⊢
        exact ⟨this, World.putObj_heap_same (Array.getElem?_eq_some_iff.1 hl3).1, (World.putObj_heap_other (by omega)).trans hk4,
          hs2.trans ((hk3.imp (fun k h _ => hzz k h)).trans (Spares.turned (grownBy_putObj' _ _ _) (fun j e hj => by cases e; rcases hj with h | h; exact absurd h (by omega); have := hKz _ h; omega)))⟩
      have hng : ∀ {g' : Option Nat}, (∀ q, g' = some q → q < w.heap.size ∨ w.heap.size + 2 ≤ q) → some (w.heap.size + 1) ≠ g' := fun h e => by have := h _ e.symm; omega
      rintro e a3 W3 hp
      cases e with
      | normal =>
        obtain ⟨g', hk3, hi3⟩ := hp
        obtain ⟨hr, hl4, hk4, hs4⟩ := fin none g' W3 hk3
        exact ⟨_, _, hr, g', hs4, .inl ⟨rfl, hI.putObj _ hi3 (by omega) (hng (fun q e => hIg _ _ _ q hi3 e)), hl4, hk4⟩⟩
      | ret =>
        obtain ⟨g', hk3, hi3⟩ := hp
        obtain ⟨hr, hl4, hk4, hs4⟩ := fin (some .ret) g' W3 hk3
        exact ⟨_, _, hr, g', hs4, .inr ⟨rfl, .ret, (hIx _).putObj _ hi3 (by omega) (hng (fun q e => hIxg _ _ _ _ q hi3 e)), hl4, hk4⟩⟩
      | exit id =>
        obtain ⟨g', hk3, hi3⟩ := hp
        obtain ⟨hr, hl4, hk4, hs4⟩ := fin (some (.exit id)) g' W3 hk3
        exact ⟨_, _, hr, g', hs4, .inr ⟨rfl, .exit id, (hIx _).putObj _ hi3 (by omega) (hng (fun q e => hIxg _ _ _ _ q hi3 e)), hl4, hk4⟩⟩
      | goto t =>
        obtain ⟨g', hk3, hi3⟩ := hp
        obtain ⟨hr, hl4, hk4, hs4⟩ := fin (some (.goto t)) g' W3 hk3
        exact ⟨_, _, hr, g', hs4, .inr ⟨rfl, .goto t, (hIx _).putObj _ hi3 (by omega) (hng (fun q e => hIxg _ _ _ _ q hi3 e)), hl4, hk4⟩⟩
      | panic ch => exact hp.elim
      | outgrown => exact hp.elim
    · -- behind the iterator
      rintro e W2 ⟨⟨v, rfl⟩, (⟨xs, g, hS, hi, hl, hk⟩ | ⟨pre, g, hSp, c, hi, hl, hk⟩)⟩
      · exact ⟨none, _, by have := run_endLoop (P := P) hl (by rw [hrec]; simp); rw [hrec] at this; exact this, hdone _ xs g _ rfl hS (hI.putObj _ hi (by omega) (fun e => by have := hIg _ _ _ _ hi e.symm; omega)) ((World.putObj_heap_other (by omega)).trans hk)⟩
      · exact ⟨some c, _, by have := run_endLoop (P := P) hl (by rw [hrec]; simp); rw [hrec] at this; exact this, hstop _ c pre g _ rfl hSp ((hIx c).putObj _ hi (by omega) (fun e => by have := hIxg _ _ _ _ _ hi e.symm; omega)) ((World.putObj_heap_other (by omega)).trans hk)⟩
end Go.Proofs.YtofegjgiocljlaaDoorH
end
section
namespace Go.Proofs.YtofegjgiocljlaaDoorH
open Go.RowKit Go.Shelf Go.Proofs.YtofegjgiocljlaaDoorW.PrintWords Go.Proofs.YtofegjgiocljlaaDoorW.PrintLast Go.Proofs.YtofegjgiocljlaaDoorW.PrintMore
attribute [local go_sem] Oper.semAt_some
def qWd : Nat → ByteArray
  | 0 => ⟨#[114, 101, 113, 117, 101, 115, 116]⟩
  | 1 => ⟨#[114, 101, 115, 112, 111, 110, 115, 101]⟩
  | 2 => ⟨#[111, 112, 101, 110, 45, 111, 117, 116]⟩
  | 3 => ⟨#[111, 112, 101, 110, 45, 105, 110]⟩
  | 4 => ⟨#[114, 101, 115, 116]⟩
  | _ => ⟨#[99, 108, 111, 115, 101]⟩
def qFn : Nat → Nat
  | 0 => 57
  | 1 => 58
  | 2 => 59
  | 3 => 60
  | 4 => 61
  | _ => 62
def qCl : Nat → Bool
  | 3 => false
  | 4 => false
  | _ => true
def qOr : Nat → Bool
  | 2 => false
  | _ => true
theorem qRow_eq (x : Nat) : qRowOf x = #[.string (qWd x), .func (.func (qFn x)) #[] #[], .bool (qCl x), .bool (qOr x)] := by
  match x with
  | 0 => rfl
  | 1 => rfl
  | 2 => rfl
  | 3 => rfl
  | 4 => rfl
  | _ + 5 => rfl
def clB (l : List Nat) : Bool := l.all fun k => !(qCl k)
def orB (l : List Nat) : Bool := l.all fun k => !(qOr k)
theorem clB_snoc (l : List Nat) (x : Nat) : clB (l ++ [x]) = (clB l && !(qCl x)) := by unfold clB; rw [List.all_append]; simp
theorem orB_snoc (l : List Nat) (x : Nat) : orB (l ++ [x]) = (orB l && !(qOr x)) := by unfold orB; rw [List.all_append]; simp
set_option maxHeartbeats 1600000 in
set_option maxRecDepth 100000 in
theorem against_calls (q p : Hf) (w : World) :
    Calls Tryd.prog 38 #[.agg q.cells, .agg p.cells] w fun e w' => e = .returned (.func (.func 55) #[] #[.pointer (some ⟨w.heap.size, 0, none⟩), .pointer (some ⟨w.heap.size + 1, 0, none⟩)]) ∧
      w' = (w.alloc (.cells q.cells 33)).alloc (.cells p.cells 33) := by
  unfold Hf.cells
  go_enter Tryd.func38, Tryd.ntmps38
  go_wp2
  go_ret
  exact ⟨rfl, rfl⟩
def IsV2 (W : World) (b : Nat) (c o : Bool) : Prop := W.heap[b]? = some (.cells #[.bool c, .bool o] 31 (0, 0))
set_option maxRecDepth 100000 in
set_option maxHeartbeats 4000000 in
theorem Judge_in (n : Nat) (hn : 7 ≤ n) (q p : Hf) (st : Nat → Bool) (w : World) (hst : Stands w q p st) :
    CallsIn Fence.wide n Tryd.prog 15 #[.agg q.cells, .agg p.cells] w fun e w' => e = .returned (.agg #[.bool (clB (onesTo st 6)), .bool (orB (onesTo st 6))]) ∧ Below w.heap.size w w' := by
  have h1 : 1 ≤ n := by omega
  obtain ⟨w1, hw1⟩ : ∃ w1, (((w.alloc (.cells q.cells 33)).alloc (.cells p.cells 33)).alloc (.cells #[.bool false, .bool false] 31)).alloc (.cells #[.bool true, .bool true] 31) = w1 := ⟨_, rfl⟩
  have HAG := Aside0.mk (against_calls q p w1)
  have s1 : w1.heap.size = w.heap.size + 4 := by rw [← hw1]; simp only [World.size_alloc]
  have HB1 := Aside0.mk (show Below w.heap.size w w1 by rw [← hw1]; exact below_alloc (below_alloc (below_alloc (below_alloc (Below.refl _ _) _) _) _) _)
  have HV1 := Aside0.mk (show IsV2 w1 (w.heap.size + 3) true true by
    rw [← hw1]
    have h := heap_alloc_new (((w.alloc (.cells q.cells 33)).alloc (.cells p.cells 33)).alloc (.cells #[.bool false, .bool false] 31)) (.cells #[.bool true, .bool true] 31)
    rw [show (((w.alloc (.cells q.cells 33)).alloc (.cells p.cells 33)).alloc (.cells #[.bool false, .bool false] 31)).heap.size = w.heap.size + 3 by simp only [World.size_alloc]] at h
    exact h)
  have HR1 := Aside0.mk (show IsV2 w1 (w.heap.size + 2) false false by
    rw [← hw1]
    have h := heap_alloc_new ((w.alloc (.cells q.cells 33)).alloc (.cells p.cells 33)) (.cells #[.bool false, .bool false] 31)
    rw [show ((w.alloc (.cells q.cells 33)).alloc (.cells p.cells 33)).heap.size = w.heap.size + 2 by simp only [World.size_alloc]] at h
    refine blk_alloc ?_ _
    exact h)
  have HW1 := Aside0.mk hw1
  clear hw1
  unfold Hf.cells at HW1
  refine callsIn_of_wp_marks Tryd.func15 rfl trivial ?_ rfl
  unfold Hf.cells
  simp only [Tryd.ntmps15, List.size_toArray, List.length_cons, List.length_nil, Nat.reduceAdd, Nat.reduceSub, Array.replicate_succ, Array.replicate_zero, List.push_toArray, List.append_toArray, List.nil_append, List.cons_append]
  gi_wp2
  refine ⟨trivial, ?_⟩
  rw [HW1.out]
  refine (callsIn_wide.2 HAG.out).mono ?_
  rintro e w2 ⟨rfl, rfl⟩
  clear HAG HW1
  gi_wp2
  have HB2 := Aside0.mk (show Below w.heap.size w ((w1.alloc (.cells q.cells 33)).alloc (.cells p.cells 33)) from (HB1.out.alloc HB1.out.size _).alloc (HB1.out.alloc HB1.out.size _).size _)
  have s2 : ((w1.alloc (.cells q.cells 33)).alloc (.cells p.cells 33)).heap.size = w.heap.size + 6 := by simp only [World.size_alloc]; omega
  have HV2 := Aside0.mk (show IsV2 ((w1.alloc (.cells q.cells 33)).alloc (.cells p.cells 33)) (w.heap.size + 3) true true from blk_alloc (blk_alloc HV1.out _) _)
  have HR2 := Aside0.mk (show IsV2 ((w1.alloc (.cells q.cells 33)).alloc (.cells p.cells 33)) (w.heap.size + 2) false false from blk_alloc (blk_alloc HR1.out _) _)
  have HQ2 := Aside0.mk (show HfAt ((w1.alloc (.cells q.cells 33)).alloc (.cells p.cells 33)) w1.heap.size q from blk_alloc (heap_alloc_new w1 _) _)
  have HP2 := Aside0.mk (show HfAt ((w1.alloc (.cells q.cells 33)).alloc (.cells p.cells 33)) (w1.heap.size + 1) p by
    have h := heap_alloc_new (w1.alloc (.cells q.cells 33)) (.cells p.cells 33)
    rw [World.size_alloc] at h
    exact h)
  generalize (w1.alloc (.cells q.cells 33)).alloc (.cells p.cells 33) = w2 at *
  have HSQ := Aside0.mk (against_own (n - 1) (by omega) w1.heap.size (w1.heap.size + 1) q p st w hst w2 (Lies.below HB2.out) HQ2.out HP2.out)
  rw [s1] at HSQ
  refine wpIn_range_put (F := Fence.wide) rfl rfl h1 (gf := 55) (lb := #[.pointer (some ⟨w.heap.size + 4, 0, none⟩), .pointer (some ⟨w.heap.size + 4 + 1, 0, none⟩)]) (by first | rfl | simp) trivial (enters_of Tryd.func55 (by kernel_rfl) rfl) HSQ.out (Below.refl _ _) (fun r h => h.elim)
    (by rintro r (h | rfl | rfl) <;> omega) (fun _ => rfl) none (fun q e => by cases e)
    (fun pre g W => g = none ∧ (IsV2 W (w.heap.size + 1 + 1 + 1) (clB pre) (orB pre) ∧ (IsV2 W (w.heap.size + 1 + 1) false false ∧ Below w.heap.size w W)))
    (fun _ _ _ _ => False)
    (Abd.and (Abd.pure (β := List Nat) (fun _ g => g = none)) (Abd.and (Abd.block (fun pre => .cells #[.bool (clB pre), .bool (orB pre)] 31 (0, 0)) (by omega) (fun h => h)) (Abd.and (Abd.block (fun _ => .cells #[.bool false, .bool false] 31 (0, 0)) (by omega) (fun h => h)) (Abd.low (by omega) (Nat.le_refl _) (fun r h => h.elim)))))
    (fun c => Abd.pure (β := List Nat) (fun _ _ => False))
    ⟨rfl, HV2.out, HR2.out, HB2.out⟩
    (fun pre g W q h e => by rw [h.1] at e; cases e) (fun c pre g W q h e => h.elim)
    (fun x a' W => ∃ b, w2.heap.size + 2 ≤ b ∧ a' = { tmps := #[.agg #[.int .i64 q.o, .int .i64 q.ik, .int .u64 q.iz, .int .i64 q.ok, .int .u64 q.oz, .int .i64 q.rest, .slice q.A q.n q.c], .agg #[.int .i64 p.o, .int .i64 p.ik, .int .u64 p.iz, .int .i64 p.ok, .int .u64 p.oz, .int .i64 p.rest, .slice p.A p.n p.c], .pointer (some ⟨w.heap.size, 0, none⟩), .pointer (some ⟨w.heap.size + 1, 0, none⟩), .pointer (some ⟨w.heap.size + 1 + 1, 0, none⟩), .pointer (some ⟨w.heap.size + 1 + 1 + 1, 0, none⟩), .pointer (some ⟨b, 0, none⟩), .agg #[.bool true, .bool true], .agg #[.int .i64 q.o, .int .i64 q.ik, .int .u64 q.iz, .int .i64 q.ok, .int .u64 q.oz, .int .i64 q.rest, .slice q.A q.n q.c], .agg #[.int .i64 p.o, .int .i64 p.ik, .int .u64 p.iz, .int .i64 p.ok, .int .u64 p.oz, .int .i64 p.rest, .slice p.A p.n p.c], .func (.func 55) #[] #[.pointer (some ⟨w.heap.size + 4, 0, none⟩), .pointer (some ⟨w.heap.size + 4 + 1, 0, none⟩)], .agg #[.string (qWd x), .func (.func (qFn x)) #[] #[], .bool (qCl x), .bool (qOr x)], undef, undef, undef, undef, undef, undef, undef, undef, undef, undef, undef, undef, undef, undef, undef, undef, undef], defers := [] } ∧ W.heap[b]? = some (.cells (qRowOf x) 74 (0, 0)))
    (fun x a' W o ⟨b, hb, e, hc⟩ => ⟨b, hb, e, (World.putObj_heap_other (by omega)).trans hc⟩) ?assign ?body ?done ?stop
  case assign =>
    intro l pre x g W K hsz hI hK
    obtain ⟨rfl, hv, hr, hBW⟩ := hI
    dsimp only
    rw [qRow_eq]
    have HK := Aside0.mk (hK { tmps := (#[.agg #[.int .i64 q.o, .int .i64 q.ik, .int .u64 q.iz, .int .i64 q.ok, .int .u64 q.oz, .int .i64 q.rest, .slice q.A q.n q.c], .agg #[.int .i64 p.o, .int .i64 p.ik, .int .u64 p.iz, .int .i64 p.ok, .int .u64 p.oz, .int .i64 p.rest, .slice p.A p.n p.c], .pointer (some ⟨w.heap.size, 0, none⟩), .pointer (some ⟨w.heap.size + 1, 0, none⟩), .pointer (some ⟨w.heap.size + 1 + 1, 0, none⟩), .pointer (some ⟨w.heap.size + 1 + 1 + 1, 0, none⟩), .pointer (some ⟨W.heap.size, 0, none⟩), .agg #[.bool true, .bool true], .agg #[.int .i64 q.o, .int .i64 q.ik, .int .u64 q.iz, .int .i64 q.ok, .int .u64 q.oz, .int .i64 q.rest, .slice q.A q.n q.c], .agg #[.int .i64 p.o, .int .i64 p.ik, .int .u64 p.iz, .int .i64 p.ok, .int .u64 p.oz, .int .i64 p.rest, .slice p.A p.n p.c], .func (.func 55) #[] #[.pointer (some ⟨w.heap.size + 4, 0, none⟩), .pointer (some ⟨w.heap.size + 4 + 1, 0, none⟩)], .agg #[.string (qWd x), .func (.func (qFn x)) #[] #[], .bool (qCl x), .bool (qOr x)], undef, undef, undef, undef, undef, undef, undef, undef, undef, undef, undef, undef, undef, undef, undef, undef, undef] : Array Value), defers := [] } (W.alloc (.cells (qRowOf x) 74)) (Spares.below (below_alloc (Below.refl _ _) _)) ⟨rfl, blk_alloc hv _, blk_alloc hr _, hBW.alloc hBW.size _⟩ ⟨W.heap.size, hsz, rfl, heap_alloc_new W _⟩)
    rw [qRow_eq] at HK
    clear hK hv hr
    gi_wp2
    exact HK.out
  case body =>
    rintro l pre x g a' W hW2 ⟨rfl, hv, hr, hBW⟩ ⟨b, hb, rfl, hc⟩ hsp
    rw [qRow_eq] at hc
    have x2 : W.cell? ⟨b, 2, none⟩ = some (.bool (qCl x)) := (blk_cell hc 2).trans rfl
    have HF := Aside0.mk (fun (A B : Bool) => show Spares (fun k => w2.heap.size ≤ k ∨ KzA w.heap.size (w.heap.size + 4) (w.heap.size + 4 + 1) k) none none W ((W.setCell ⟨w.heap.size + 1 + 1 + 1, 0, none⟩ (.bool A)).setCell ⟨w.heap.size + 1 + 1 + 1, 1, none⟩ (.bool B)) ∧ IsV2 ((W.setCell ⟨w.heap.size + 1 + 1 + 1, 0, none⟩ (.bool A)).setCell ⟨w.heap.size + 1 + 1 + 1, 1, none⟩ (.bool B)) (w.heap.size + 1 + 1 + 1) A B ∧
      IsV2 ((W.setCell ⟨w.heap.size + 1 + 1 + 1, 0, none⟩ (.bool A)).setCell ⟨w.heap.size + 1 + 1 + 1, 1, none⟩ (.bool B)) (w.heap.size + 1 + 1) false false ∧ Below w.heap.size w ((W.setCell ⟨w.heap.size + 1 + 1 + 1, 0, none⟩ (.bool A)).setCell ⟨w.heap.size + 1 + 1 + 1, 1, none⟩ (.bool B)) from
      ⟨⟨by simp, .inl rfl, fun k hk _ _ => by
          have hne : k ≠ w.heap.size + 1 + 1 + 1 := by unfold KzA at hk; rcases hk with h | h | h | h <;> omega
          rw [Below.heap_setCell _ _ _ k hne, Below.heap_setCell _ _ _ k hne]⟩,
        blk_put (blk_put hv 0 (.bool A) rfl) 1 (.bool B) rfl, blk_far (blk_far hr (p := ⟨w.heap.size + 1 + 1 + 1, 0, none⟩) (by show w.heap.size + 1 + 1 ≠ w.heap.size + 1 + 1 + 1; omega) _) (p := ⟨w.heap.size + 1 + 1 + 1, 1, none⟩) (by show w.heap.size + 1 + 1 ≠ w.heap.size + 1 + 1 + 1; omega) _,
        (hBW.setCell (p := ⟨w.heap.size + 1 + 1 + 1, 0, none⟩) (by show w.heap.size ≤ w.heap.size + 1 + 1 + 1; omega) _).setCell (p := ⟨w.heap.size + 1 + 1 + 1, 1, none⟩) (by show w.heap.size ≤ w.heap.size + 1 + 1 + 1; omega) _⟩)
    have HX3 := Aside0.mk (fun A : Bool => show (W.setCell ⟨w.heap.size + 1 + 1 + 1, 0, none⟩ (.bool A)).cell? ⟨b, 3, none⟩ = some (.bool (qOr x)) from (blk_cell (blk_far hc (p := ⟨w.heap.size + 1 + 1 + 1, 0, none⟩) (by show b ≠ w.heap.size + 1 + 1 + 1; omega) _) 3).trans rfl)
    have HCL := Aside0.mk (clB_snoc pre x)
    have HOR := Aside0.mk (orB_snoc pre x)
    have v0 : W.cell? ⟨w.heap.size + 1 + 1 + 1, 0, none⟩ = some (.bool (clB pre)) := (blk_cell hv 0).trans rfl
    have f0 : W.frozen? ⟨w.heap.size + 1 + 1 + 1, 0, none⟩ = false := blk_frozen hv 0
    have HV1 := Aside0.mk (fun A : Bool => show (W.setCell ⟨w.heap.size + 1 + 1 + 1, 0, none⟩ (.bool A)).cell? ⟨w.heap.size + 1 + 1 + 1, 1, none⟩ = some (.bool (orB pre)) ∧ (W.setCell ⟨w.heap.size + 1 + 1 + 1, 0, none⟩ (.bool A)).frozen? ⟨w.heap.size + 1 + 1 + 1, 1, none⟩ = false from ⟨(blk_cell (blk_put hv 0 (.bool A) rfl) 1).trans rfl, blk_frozen (blk_put hv 0 (.bool A) rfl) 1⟩)
    clear hv hr hc hBW hsp
    generalize clB pre = c at *
    generalize orB pre = o at *
    generalize qCl x = cl at *
    generalize qOr x = co at *
    obtain ⟨A, hA⟩ : ∃ A, (c && !cl) = A := ⟨_, rfl⟩
    have x3 := HX3.out A
    obtain ⟨v1, f1⟩ := HV1.out A
    rw [hA] at HCL
    clear HX3 HV1
    cases c <;> cases cl <;> cases o <;> cases co <;> cases A <;> first
      | exact absurd hA (by decide)
      | (clear hA; gi_wp2; exact ⟨none, (HF.out _ _).1, rfl, by rw [HCL.out, HOR.out]; exact (HF.out _ _).2.1, (HF.out _ _).2.2.1, (HF.out _ _).2.2.2⟩)
  case done =>
    rintro D ys g W hD rfl ⟨rfl, hv, hr, hBW⟩ hK
    have v0 : W.cell? ⟨w.heap.size + 1 + 1 + 1, 0, none⟩ = some (.bool (clB (onesTo st 6))) := (blk_cell hv 0).trans rfl
    have v1 : W.cell? ⟨w.heap.size + 1 + 1 + 1, 1, none⟩ = some (.bool (orB (onesTo st 6))) := (blk_cell hv 1).trans rfl
    have r0 : W.cell? ⟨w.heap.size + 1 + 1, 0, none⟩ = some (.bool false) := (blk_cell hr 0).trans rfl
    have r1 : W.cell? ⟨w.heap.size + 1 + 1, 1, none⟩ = some (.bool false) := (blk_cell hr 1).trans rfl
    have g0 : W.frozen? ⟨w.heap.size + 1 + 1, 0, none⟩ = false := blk_frozen hr 0
    have g1 : W.frozen? ⟨w.heap.size + 1 + 1, 1, none⟩ = false := blk_frozen hr 1
    generalize hcc : clB (onesTo st 6) = c at *
    generalize hoo : orB (onesTo st 6) = o at *
    have HCC := Aside0.mk hcc
    have HOO := Aside0.mk hoo
    clear hcc hoo
    have hne : D ≠ w.heap.size + 1 + 1 := by omega
    have HX := Aside0.mk (show IsV2 ((W.setCell ⟨w.heap.size + 1 + 1, 0, none⟩ (.bool c)).setCell ⟨w.heap.size + 1 + 1, 1, none⟩ (.bool o)) (w.heap.size + 1 + 1) c o from blk_put (blk_put hr 0 (.bool c) rfl) 1 (.bool o) rfl)
    have HK := Aside0.mk (show ((W.setCell ⟨w.heap.size + 1 + 1, 0, none⟩ (.bool c)).setCell ⟨w.heap.size + 1 + 1, 1, none⟩ (.bool o)).heap[D]? = some (.deferred (some [])) by rw [Below.heap_setCell _ _ _ D hne, Below.heap_setCell _ _ _ D hne]; exact hK)
    have HB := Aside0.mk ((hBW.setCell (p := ⟨w.heap.size + 1 + 1, 0, none⟩) (by show w.heap.size ≤ w.heap.size + 1 + 1; omega) (.bool c)).setCell (p := ⟨w.heap.size + 1 + 1, 1, none⟩) (by show w.heap.size ≤ w.heap.size + 1 + 1; omega) (.bool o))
    have HX2 := Aside0.mk (show IsV2 (((W.setCell ⟨w.heap.size + 1 + 1, 0, none⟩ (.bool c)).setCell ⟨w.heap.size + 1 + 1, 1, none⟩ (.bool o)).putObj D (.deferred none)) (w.heap.size + 1 + 1) c o from (World.putObj_heap_other (by omega)).trans HX.out)
    have HB2' := Aside0.mk (HB.out.grown (grownBy_putObj' _ D (.deferred none)) HB.out.size (fun k e => by cases e; omega))
    clear hK hv hr hBW
    gi_wp2
    refine ⟨by simp, .inl ⟨_, _, rfl, run_takeDeferred HK.out, ?_⟩⟩
    refine ⟨_, results_cell_row rfl _ _ (w.heap.size + 1 + 1) 31 #[.bool c, .bool o] (0, 0) _ rfl HX2.out Tryd.underlying31 rfl (by kernel_rfl), by rw [HCC.out, HOO.out], HB2'.out⟩
  case stop =>
    rintro D c pre g W hD hsp h hK
    exact h.elim
end Go.Proofs.YtofegjgiocljlaaDoorH
end
section
namespace Go.Proofs.YtofegjgiocljlaaDoorH
open Go.RowKit Go.Shelf Go.Proofs.YtofegjgiocljlaaDoorW.PrintWords Go.Proofs.YtofegjgiocljlaaDoorW.PrintLast Go.Proofs.YtofegjgiocljlaaDoorW.PrintMore Go.Proofs.YtofegjgiocljlaaDoor.Pr
theorem small_of_sum (l : List Fld) (h : sumF l ≤ 3000) : Small1 l := fun y hy => by
  have := sumF_at l y hy
  exact ⟨by omega, by omega⟩
theorem hfOk_of {w : World} (o ik iz ok oz rest : Int) (A : Option Addr) (c : Nat) (l : List Fld) (hr : Kd.C k37 w A l.length l) (hc : l.length ≤ c) (h : sumF l ≤ 3000) : HfOk w ⟨o, ik, iz, ok, oz, rest, A, l.length, c⟩ l := ⟨rfl, hc, hr, small_of_sum l h, h⟩
theorem onesTo_same (st st' : Nat → Bool) (h : ∀ k, st k = st' k) : onesTo st 6 = onesTo st' 6 := by
  have : st = st' := funext h
  rw [this]
def onesB (q p : Hf) (lq lp : List Fld) : List Nat := onesTo (stB q p lq lp) 6
theorem ones_lie (o ik iz ok oz rest : Int) (A A' : Option Addr) (n n' c c' : Nat) (o2 ik2 iz2 ok2 oz2 rest2 : Int) (B B' : Option Addr) (m m' d d' : Nat) (lq lp : List Fld) :
    onesB ⟨o, ik, iz, ok, oz, rest, A, n, c⟩ ⟨o2, ik2, iz2, ok2, oz2, rest2, B, m, d⟩ lq lp = onesB ⟨o, ik, iz, ok, oz, rest, A', n', c'⟩ ⟨o2, ik2, iz2, ok2, oz2, rest2, B', m', d'⟩ lq lp :=
  onesTo_same _ _ fun k => match k with
    | 0 => rfl
    | 1 => rfl
    | 2 => rfl
    | 3 => rfl
    | 4 => rfl
    | _ + 5 => rfl
def reuse_Judge.f (a0_0 : Int) (a0_1 : Int) (a0_2 : Int) (a0_3 : Int) (a0_4 : Int) (a0_5 : Int) (l0_6 : List S37) (a1_0 : Int) (a1_1 : Int) (a1_2 : Int) (a1_3 : Int) (a1_4 : Int) (a1_5 : Int) (l1_6 : List S37) : Option (Bool × Bool) := if sumF l0_6 ≤ 3000 ∧ sumF l1_6 ≤ 3000 then some (clB (onesB ⟨a0_0, a0_1, a0_2, a0_3, a0_4, a0_5, none, 0, 0⟩ ⟨a1_0, a1_1, a1_2, a1_3, a1_4, a1_5, none, 0, 0⟩ l0_6 l1_6), orB (onesB ⟨a0_0, a0_1, a0_2, a0_3, a0_4, a0_5, none, 0, 0⟩ ⟨a1_0, a1_1, a1_2, a1_3, a1_4, a1_5, none, 0, 0⟩ l0_6 l1_6)) else none
theorem reuse_Judge.calls (a0_0 : Int) (a0_1 : Int) (a0_2 : Int) (a0_3 : Int) (a0_4 : Int) (a0_5 : Int) (A0_6 : Option Addr) (c0_6 : Nat) (l0_6 : List S37) (a1_0 : Int) (a1_1 : Int) (a1_2 : Int) (a1_3 : Int) (a1_4 : Int) (a1_5 : Int) (A1_6 : Option Addr) (c1_6 : Nat) (l1_6 : List S37) (r1 : Bool) (r2 : Bool) (w : World) (hr0_6 : Kd.C k37 w A0_6 l0_6.length l0_6) (hc0_6 : l0_6.length ≤ c0_6) (hr1_6 : Kd.C k37 w A1_6 l1_6.length l1_6) (hc1_6 : l1_6.length ≤ c1_6) (hG : TabOk w) (h : reuse_Judge.f a0_0 a0_1 a0_2 a0_3 a0_4 a0_5 l0_6 a1_0 a1_1 a1_2 a1_3 a1_4 a1_5 l1_6 = some (r1, r2)) :
    Calls Tryd.prog 15 #[.agg #[.int .i64 a0_0, .int .i64 a0_1, .int .u64 a0_2, .int .i64 a0_3, .int .u64 a0_4, .int .i64 a0_5, .slice A0_6 l0_6.length c0_6], .agg #[.int .i64 a1_0, .int .i64 a1_1, .int .u64 a1_2, .int .i64 a1_3, .int .u64 a1_4, .int .i64 a1_5, .slice A1_6 l1_6.length c1_6]] w fun e w' => e = .returned (.agg #[.bool r1, .bool r2]) ∧ Below w.heap.size w w' := by
  unfold reuse_Judge.f at h
  split at h
  case isFalse => cases h
  rename_i hs
  injection h with h
  have hq := hfOk_of a0_0 a0_1 a0_2 a0_3 a0_4 a0_5 A0_6 c0_6 l0_6 hr0_6 hc0_6 hs.1
  have hp := hfOk_of a1_0 a1_1 a1_2 a1_3 a1_4 a1_5 A1_6 c1_6 l1_6 hr1_6 hc1_6 hs.2
  refine (callsIn_wide.1 (Judge_in 7 (Nat.le_refl _) _ _ _ w (stands w _ _ l0_6 l1_6 hq hp hG))).mono ?_
  rintro e w' ⟨rfl, hb⟩
  refine ⟨?_, hb⟩
  have e1 := ones_lie a0_0 a0_1 a0_2 a0_3 a0_4 a0_5 A0_6 none l0_6.length 0 c0_6 0 a1_0 a1_1 a1_2 a1_3 a1_4 a1_5 A1_6 none l1_6.length 0 c1_6 0 l0_6 l1_6
  rw [Prod.mk.injEq, ← e1] at h
  rw [← h.1, ← h.2]
  rfl
def reuse_Why.f (a0_0 : Int) (a0_1 : Int) (a0_2 : Int) (a0_3 : Int) (a0_4 : Int) (a0_5 : Int) (l0_6 : List S37) (a1_0 : Int) (a1_1 : Int) (a1_2 : Int) (a1_3 : Int) (a1_4 : Int) (a1_5 : Int) (l1_6 : List S37) : Option (List ByteArray) := if sumF l0_6 ≤ 3000 ∧ sumF l1_6 ≤ 3000 then some ((onesB ⟨a0_0, a0_1, a0_2, a0_3, a0_4, a0_5, none, 0, 0⟩ ⟨a1_0, a1_1, a1_2, a1_3, a1_4, a1_5, none, 0, 0⟩ l0_6 l1_6).map qWd) else none
set_option maxHeartbeats 1600000 in
set_option maxRecDepth 100000 in
theorem of_calls (o ik iz ok oz rest : Int) (A : Option Addr) (n c : Nat) (w : World) :
    Calls Tryd.prog 16 #[.agg #[.int .i64 o, .int .i64 ik, .int .u64 iz, .int .i64 ok, .int .u64 oz, .int .i64 rest, .slice A n c]] w fun e w' => e = .returned (.agg #[.int .i64 o, .int .i64 ik, .int .u64 iz, .int .i64 ok, .int .u64 oz, .int .i64 rest, .slice A n c]) ∧ Below w.heap.size w w' := by
  go_enter Tryd.func16, Tryd.ntmps16
  go_wp2
  refine bodyPost_ret (results_cell_row rfl _ _ (w.heap.size + 1) 33 #[.int .i64 o, .int .i64 ik, .int .u64 iz, .int .i64 ok, .int .u64 oz, .int .i64 rest, .slice A n c] (0, 0) _ rfl ?_ Tryd.underlying33 rfl (by kernel_rfl)) rfl ?_
  · have h := heap_alloc_new (w.alloc (.cells #[.int .i64 o, .int .i64 ik, .int .u64 iz, .int .i64 ok, .int .u64 oz, .int .i64 rest, .slice A n c] 27)) (.cells #[.int .i64 o, .int .i64 ik, .int .u64 iz, .int .i64 ok, .int .u64 oz, .int .i64 rest, .slice A n c] 33)
    rw [World.size_alloc] at h
    exact h
  · exact ⟨rfl, below_alloc (below_alloc (Below.refl _ _) _) _⟩
end Go.Proofs.YtofegjgiocljlaaDoorH
end
section
namespace Go.Proofs.YtofegjgiocljlaaDoorH
open Go.RowKit Go.ChangeShapes Go.WideShapes Go.ChangeAt Go.Proofs.YtofegjgiocljlaaDoorW.PrintWords
def Light {H : Type} (P : Program) (t : TypeId) (d : DataW H) : Prop := ∀ x ∈ DataW.weights P t d, x ≤ reachBytes
structure Opens (P : Program) {α : Type} (d : Kd α) (t : TypeId) (G : α → Prop) : Prop where
  cells : P.cellsOf t = d.sz
  open_ : ∀ {H : Type} {enc : TypeId × Value → H} {W : World} {fuel : Nat} {cs : List Value} {x : DataW H × List MemPlace},
    DataW.trod enc P W 0 (fun _ => true) true fuel t cs = some x → Light P t x.1 → ∃ y, d.K W y cs ∧ G y
theorem Opens.int {P : Program} {t : TypeId} {k : IntKind} (hu : P.underlying t = some (.int k)) (hc : P.cellsOf t = 1) : Opens P (Kd.int k) t (fun n => (Lit.int k n).wf = true) := by
  refine ⟨hc, fun h _ => ?_⟩
  obtain ⟨n, e1, e2, wf⟩ := DataW.trod_int hu h
  exact ⟨n, e1, wf⟩
theorem Opens.bool {P : Program} {t : TypeId} (hu : P.underlying t = some .bool) (hc : P.cellsOf t = 1) : Opens P Kd.bool t (fun _ => True) := by
  refine ⟨hc, fun {_ _ _ fuel cs _} h _ => ?_⟩
  cases fuel with
  | zero => simp [DataW.trod] at h
  | succ m =>
    unfold DataW.trod at h
    rw [hu] at h
    match cs, h with
    | [.bool b], _ => exact ⟨b, rfl, trivial⟩
theorem Opens.string {P : Program} {t : TypeId} (hu : P.underlying t = some .string) (hc : P.cellsOf t = 1) : Opens P Kd.string t (fun s => s.size ≤ 140737488351232) := by
  refine ⟨hc, fun h hl => ?_⟩
  obtain ⟨s, e1, e2, _⟩ := DataW.trod_string hu h
  refine ⟨s, e1, ?_⟩
  subst e2
  have := hl s.data.toList.length (by simp [DataW.weights])
  rw [data_length] at this
  exact this
theorem weightsAll_mem {H : Type} (P : Program) (e : TypeId) : ∀ (l : List (DataW H)) (d : DataW H), d ∈ l → ∀ x ∈ DataW.weights P e d, x ∈ DataW.weightsAll P e l
  | [], d, h, _, _ => by cases h
  | a :: l, d, h, x, hx => by
    rw [DataW.weightsAll]
    rcases List.mem_cons.1 h with rfl | h
    · exact List.mem_append_left _ hx
    · exact List.mem_append_right _ (weightsAll_mem P e l d h x hx)
theorem list_of {α : Type} {p : Nat → α → Prop} : ∀ n : Nat, (∀ i, i < n → ∃ y, p i y) → ∃ l : List α, l.length = n ∧ ∀ i y, l[i]? = some y → p i y
  | 0, _ => ⟨[], rfl, fun i y h => by simp at h⟩
  | n + 1, h => by
    obtain ⟨l, hl, hp⟩ := list_of n (fun i hi => h i (by omega))
    obtain ⟨y, hy⟩ := h n (by omega)
    refine ⟨l ++ [y], by simp [hl], fun i z hz => ?_⟩
    rcases Nat.lt_or_ge i n with hi | hi
    · rw [List.getElem?_append_left (by omega)] at hz
      exact hp i z hz
    · rw [List.getElem?_append_right (by omega), hl] at hz
      rcases Nat.eq_zero_or_pos (i - n) with h0 | h0
      · rw [h0] at hz
        obtain rfl : i = n := by omega
        obtain rfl : y = z := by simpa using hz
        exact hy
      · rw [List.getElem?_eq_none (by simp; omega)] at hz
        cases hz
theorem add_add (a : Addr) (i j : Nat) : (a.add i).add j = a.add (i + j) := by
  unfold Addr.add
  by_cases h1 : i = 0
  · subst h1; simp
  · by_cases h2 : j = 0
    · subst h2; simp [h1]
    · simp [h1, h2, Nat.add_assoc]
theorem cells_at {W : World} {base : Nat} {a : Addr} {n : Nat} {cs : List Value} (h : W.cells? base a n = some cs) : cs.length = n ∧ ∀ (i : Nat) u, cs[i]? = some u → W.cell? (a.add i) = some u := by
  obtain ⟨_, hn, hc⟩ := World.cells?_some h
  refine ⟨hn, fun i u hu => ?_⟩
  have hi : i < n := by
    rcases Nat.lt_or_ge i n with hi | hi
    · exact hi
    · rw [List.getElem?_eq_none (by omega)] at hu; cases hu
  rw [hc i hi, hu]
theorem Opens.slice {P : Program} {α : Type} {d : Kd α} {t e : TypeId} {G : α → Prop} (h : Opens P d e G) (hu : P.underlying t = some (.slice e)) (hc : P.cellsOf t = 1) {B : Nat} (hB : P.bytesOf e = B) :
    Opens P (Kd.slice e d) t (fun l => l.length * B ≤ 140737488351232 ∧ ∀ y ∈ l, G y) := by
  refine ⟨hc, fun {H enc W fuel cs x} hx hl => ?_⟩
  rcases Deep.open_slice hu hx with ⟨rfl, rfl⟩ | ⟨a, len, cap, m, n, D, Pl, rfl, _, hle, hm, hmm, rfl, hel⟩
  · exact ⟨[], ⟨none, 0, rfl, Nat.le_refl _, rfl, by simp, fun h => by simp at h⟩, by simp, fun y hy => by cases hy⟩
  · simp only [if_true] at hmm
    subst hmm
    have hw : (len + (m - len)) * B ≤ 140737488351232 := by
      have := hl ((len + (m - len)) * B) (by
        unfold DataW.weights
        simp only [hu, hB]
        simp)
      exact this
    have hget : ∀ i, i < len → ∃ y, (∃ c, c.length = d.sz ∧ d.K W y c ∧ ∀ j u, c[j]? = some u → W.cell? (a.add (i * d.sz + j)) = some u) ∧ G y := by
      intro i hi
      obtain ⟨cs', h1, h2⟩ := hel i (by omega)
      obtain ⟨y, hy, hg⟩ := h.open_ h2 (fun x hx => hl x (by
        unfold DataW.weights
        simp only [hu]
        refine List.mem_cons_of_mem _ (List.mem_append_left _ (weightsAll_mem P e _ (D i) ?_ x hx))
        exact List.mem_map.2 ⟨i, List.mem_range.2 hi, rfl⟩))
      obtain ⟨hn, hcell⟩ := cells_at h1
      refine ⟨y, ⟨cs', by rw [hn, h.cells], hy, fun j u hj => ?_⟩, hg⟩
      have := hcell j u hj
      rw [add_add, h.cells] at this
      exact this
    obtain ⟨l, hll, hat⟩ := list_of len hget
    refine ⟨l, ⟨some a, m, by rw [hll], by omega, rfl, by rw [hll]; unfold maxLen at hm; omega, fun _ => ⟨a, rfl, fun j p hj => (hat j p hj).1⟩⟩, ?_, fun y hy => ?_⟩
    · rw [hll]
      exact Nat.le_trans (Nat.mul_le_mul_right _ (by omega)) hw
    · obtain ⟨i, hi, rfl⟩ := List.mem_iff_getElem.1 hy
      exact (hat i _ (List.getElem?_eq_getElem hi)).2
theorem weights_agg {H : Type} {P : Program} {t : TypeId} {fs : Array Field} (hu : P.underlying t = some (.struct fs)) (xs : List (DataW H)) : DataW.weights P t (.agg xs) = DataW.weightsEach P (fs.toList.map (·.type)) xs := by
  simp [DataW.weights, hu]
theorem light_of {H : Type} {P : Program} {ts : List TypeId} {ds : List (DataW H)} (h : (DataW.weightsEach P ts ds).all (· ≤ reachBytes) = true) {j : Nat} {t : TypeId} {d : DataW H} (ht : ts[j]? = some t) (hd : ds[j]? = some d) : Light P t d := fun x hx => by
  have := List.all_eq_true.1 h x (DataW.weights_mem_each ht hd x hx)
  simpa using this
theorem Opens.struct2 {P : Program} {α β : Type} {d0 : Kd α} {d1 : Kd β} {t : TypeId} {f0 f1 : Field} {G0 : α → Prop} {G1 : β → Prop} (h0 : Opens P d0 f0.type G0) (h1 : Opens P d1 f1.type G1) (hu : P.underlying t = some (.struct #[f0, f1]))
    (o0 : f0.offset = 0) (o1 : f1.offset = d0.sz) (hc : P.cellsOf t = d0.sz + d1.sz) : Opens P (Kd.pair d0 d1) t (fun x => G0 x.1 ∧ G1 x.2) := by
  refine ⟨hc, fun {H enc W fuel cs x} hx hl => ?_⟩
  obtain ⟨y0, y1, n, rfl, hn, e0, e1⟩ := trod_struct2 hu hx
  have hw : ∀ x, x ∈ DataW.weights P t (.agg [y0.1, y1.1]) → x ≤ reachBytes := hl
  rw [weights_agg hu] at hw
  obtain ⟨x0, k0, g0⟩ := h0.open_ e0 (fun x hx => hw x (DataW.weights_mem_each (j := 0) rfl rfl x hx))
  obtain ⟨x1, k1, g1⟩ := h1.open_ e1 (fun x hx => hw x (DataW.weights_mem_each (j := 1) rfl rfl x hx))
  refine ⟨(x0, x1), ⟨_, _, ?_, k0, k1⟩, g0, g1⟩
  rw [o0, o1, h0.cells, h1.cells, List.drop_zero]
  rw [hc] at hn
  have : (cs.drop d0.sz).take d1.sz = cs.drop d0.sz := List.take_of_length_le (by rw [List.length_drop]; omega)
  rw [this, List.take_append_drop]
theorem Opens.iso {P : Program} {α β : Type} {d : Kd α} {t : TypeId} {G : α → Prop} (h : Opens P d t G) (f : β → α) (g : α → β) (hfg : ∀ y, f (g y) = y) : Opens P (Kd.iso d f) t (fun x => G (f x)) := by
  refine ⟨h.cells, fun {H enc W fuel cs x} hx hl => ?_⟩
  obtain ⟨y, hk, hg⟩ := h.open_ hx hl
  exact ⟨g y, show d.K W (f (g y)) cs by rw [hfg]; exact hk, by rw [hfg]; exact hg⟩
end Go.Proofs.YtofegjgiocljlaaDoorH
end
section
namespace Go.Proofs.YtofegjgiocljlaaDoorH
open Go.RowKit Go.ChangeShapes Go.WideShapes Go.ChangeAt Go.Proofs.YtofegjgiocljlaaDoorW.PrintWords Go.Proofs.YtofegjgiocljlaaDoor.Pr
theorem drop_take (cs : List Value) (a n : Nat) : cs.drop a = (cs.drop a).take n ++ cs.drop (a + n) := by
  rw [← List.drop_drop, List.take_append_drop]
theorem Opens.struct5 {P : Program} {α0 α1 α2 α3 α4 : Type} {d0 : Kd α0} {d1 : Kd α1} {d2 : Kd α2} {d3 : Kd α3} {d4 : Kd α4} {t : TypeId} {f0 f1 f2 f3 f4 : Field} {G0 : α0 → Prop} {G1 : α1 → Prop} {G2 : α2 → Prop} {G3 : α3 → Prop} {G4 : α4 → Prop}
    (h0 : Opens P d0 f0.type G0) (h1 : Opens P d1 f1.type G1) (h2 : Opens P d2 f2.type G2) (h3 : Opens P d3 f3.type G3) (h4 : Opens P d4 f4.type G4) (hu : P.underlying t = some (.struct #[f0, f1, f2, f3, f4]))
    (o0 : f0.offset = 0) (o1 : f1.offset = d0.sz) (o2 : f2.offset = d0.sz + d1.sz) (o3 : f3.offset = d0.sz + d1.sz + d2.sz) (o4 : f4.offset = d0.sz + d1.sz + d2.sz + d3.sz) (hc : P.cellsOf t = d0.sz + (d1.sz + (d2.sz + (d3.sz + d4.sz)))) :
    Opens P (Kd.pair d0 (Kd.pair d1 (Kd.pair d2 (Kd.pair d3 d4)))) t (fun x => G0 x.1 ∧ G1 x.2.1 ∧ G2 x.2.2.1 ∧ G3 x.2.2.2.1 ∧ G4 x.2.2.2.2) := by
  refine ⟨hc, fun {H enc W fuel cs x} hx hl => ?_⟩
  obtain ⟨xs, n, _, rfl, hn, hlen, hf⟩ := DataW.trod_struct hu hx
  match xs, hlen with
  | [y0, y1, y2, y3, y4], _ =>
    have e0 := hf 0 f0 rfl
    have e1 := hf 1 f1 rfl
    have e2 := hf 2 f2 rfl
    have e3 := hf 3 f3 rfl
    have e4 := hf 4 f4 rfl
    have hw : ∀ x, x ∈ DataW.weights P t (.agg [y0.1, y1.1, y2.1, y3.1, y4.1]) → x ≤ reachBytes := hl
    rw [weights_agg hu] at hw
    obtain ⟨x0, k0, g0⟩ := h0.open_ e0 (fun x hx => hw x (DataW.weights_mem_each (j := 0) rfl rfl x hx))
    obtain ⟨x1, k1, g1⟩ := h1.open_ e1 (fun x hx => hw x (DataW.weights_mem_each (j := 1) rfl rfl x hx))
    obtain ⟨x2, k2, g2⟩ := h2.open_ e2 (fun x hx => hw x (DataW.weights_mem_each (j := 2) rfl rfl x hx))
    obtain ⟨x3, k3, g3⟩ := h3.open_ e3 (fun x hx => hw x (DataW.weights_mem_each (j := 3) rfl rfl x hx))
    obtain ⟨x4, k4, g4⟩ := h4.open_ e4 (fun x hx => hw x (DataW.weights_mem_each (j := 4) rfl rfl x hx))
    refine ⟨(x0, x1, x2, x3, x4), ⟨_, _, ?_, k0, _, _, rfl, k1, _, _, rfl, k2, _, _, rfl, k3, k4⟩, g0, g1, g2, g3, g4⟩
    rw [o0, o1, o2, o3, o4, h0.cells, h1.cells, h2.cells, h3.cells, h4.cells]
    rw [hc] at hn
    have hz : (cs.drop (d0.sz + d1.sz + d2.sz + d3.sz)).take d4.sz = cs.drop (d0.sz + d1.sz + d2.sz + d3.sz) := List.take_of_length_le (by rw [List.length_drop]; omega)
    rw [hz, ← drop_take, ← drop_take, ← drop_take, List.drop_zero, List.take_append_drop]
structure HalfD where
  o : Int
  ik : Int
  iz : Int
  ok : Int
  oz : Int
  rest : Int
  l : List Fld
set_option maxRecDepth 100000 in
theorem half_open {H : Type} {enc : TypeId × Value → H} {W : World} {fuel : Nat} {cs : Array Value} {x : DataW H × List MemPlace}
    (hx : DataW.trod enc Tryd.prog W 0 (fun _ => true) true fuel 27 cs.toList = some x) (hl : Light Tryd.prog 27 x.1) :
    ∃ (y : HalfD) (A : Option Addr) (c : Nat), cs = #[.int .i64 y.o, .int .i64 y.ik, .int .u64 y.iz, .int .i64 y.ok, .int .u64 y.oz, .int .i64 y.rest, .slice A y.l.length c] ∧ y.l.length ≤ c ∧ Kd.C k37 W A y.l.length y.l ∧
      y.l.length * 32 ≤ 140737488351232 ∧ ∀ f ∈ y.l, (f.f0.size ≤ 140737488351232 ∧ f.f1.size ≤ 140737488351232) := by
  have oi := Opens.int Tryd.underlying3 (by kernel_rfl)
  have of2 := Opens.struct2 (t := 24) (Opens.int Tryd.underlying3 (by kernel_rfl)) (Opens.int Tryd.underlying22 (by kernel_rfl)) Tryd.underlying24 rfl rfl (by kernel_rfl)
  have os := Opens.slice (Opens.iso (Opens.struct2 (Opens.string Tryd.underlying9 (by kernel_rfl)) (Opens.string Tryd.underlying9 (by kernel_rfl)) Tryd.underlying37 rfl rfl (by kernel_rfl)) (fun x : S37 => (x.f0, x.f1)) (fun y => ⟨y.1, y.2⟩) (fun _ => rfl)) Tryd.underlying25 (by kernel_rfl) (B := 32) (by kernel_rfl)
  obtain ⟨⟨o, ⟨ik, iz⟩, ⟨ok, oz⟩, rest, l⟩, hK, _, _, _, _, hg⟩ := (Opens.struct5 oi of2 of2 oi os Tryd.underlying27 rfl rfl rfl rfl rfl (by kernel_rfl)).open_ hx hl
  obtain ⟨_, _, e, rfl, _, _, rfl, ⟨_, _, rfl, rfl, rfl⟩, _, _, rfl, ⟨_, _, rfl, rfl, rfl⟩, _, _, rfl, rfl, A, c, rfl, hc, hC⟩ := hK
  exact ⟨⟨o, ik, iz, ok, oz, rest, l⟩, A, c, Array.toList_inj.1 e, hc, hC, hg.1, hg.2⟩
end Go.Proofs.YtofegjgiocljlaaDoorH
end
section
namespace Go.Proofs.YtofegjgiocljlaaDoorH
open Go.RowKit
theorem range6 : List.range 6 = [0, 1, 2, 3, 4, 5] := rfl
theorem cl_eq (st : Nat → Bool) : clB (onesTo st 6) = (!(st 0) && !(st 1) && !(st 2) && !(st 5)) := by
  unfold clB onesTo
  rw [range6]
  cases h0 : st 0 <;> cases h1 : st 1 <;> cases h2 : st 2 <;> cases h3 : st 3 <;> cases h4 : st 4 <;> cases h5 : st 5 <;> simp [h0, h1, h2, h3, h4, h5, qCl]
theorem or_eq (st : Nat → Bool) : orB (onesTo st 6) = (!(st 0) && !(st 1) && !(st 3) && !(st 4) && !(st 5)) := by
  unfold orB onesTo
  rw [range6]
  cases h0 : st 0 <;> cases h1 : st 1 <;> cases h2 : st 2 <;> cases h3 : st 3 <;> cases h4 : st 4 <;> cases h5 : st 5 <;> simp [h0, h1, h2, h3, h4, h5, qOr]
end Go.Proofs.YtofegjgiocljlaaDoorH
end
section
namespace Go.Proofs.YtofegjgiocljlaaDoor.Pr
open Go.RowKit Go.Proofs.YtofegjgiocljlaaDoorH Go.Proofs.YtofegjgiocljlaaDoorW.PrintWords Go.Proofs.YtofegjgiocljlaaDoorW.PrintLast Go.Proofs.YtofegjgiocljlaaDoorW.PrintMore
attribute [local go_sem] max2_int min2_int max_two min_two max_three min_three max_four min_four   -- for this text's walks alone
set_option linter.unusedVariables false
set_option linter.unusedSimpArgs false
theorem eqA31 (d : Nat) (w : World) (x0 y0 : Bool) (x1 y1 : Bool) :
    (Op.equalIn (d + 2) 31 (.agg #[.bool x0, .bool x1]) (.agg #[.bool y0, .bool y1])).run Tryd.prog w = .ok (x0 == y0 && (x1 == y1)) w := by
  refine eqA_of Tryd.underlying31 (by kernel_rfl) ?_
  refine eqf_cons (by rfl) (by go_simp; rfl) (by go_simp; rfl) (by go_simp) ?_
  exact eqf_last (by rfl) (by go_simp; rfl) (by go_simp; rfl) (by go_simp)
end Go.Proofs.YtofegjgiocljlaaDoor.Pr
end
