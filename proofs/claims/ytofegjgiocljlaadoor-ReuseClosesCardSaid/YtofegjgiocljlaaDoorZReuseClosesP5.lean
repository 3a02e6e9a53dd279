import Derived.Test.YtofegjgiocljlaaDoorZReuseClosesP4
import Derived.Test.YtofegjgiocljlaaDoorZReuseClosesP2
import Derived.Deep.RegionHeld3
section
namespace Go.Proofs.YtofegjgiocljlaaDoor.Pr
open Go.RowKit Go.Proofs.YtofegjgiocljlaaDoorH Go.Proofs.YtofegjgiocljlaaDoorW.PrintWords Go.Proofs.YtofegjgiocljlaaDoorW.PrintLast Go.Proofs.YtofegjgiocljlaaDoorW.PrintMore
attribute [local go_sem] max2_int min2_int max_two min_two max_three min_three max_four min_four   -- for this text's walks alone
set_option linter.unusedVariables false
set_option linter.unusedSimpArgs false
attribute [local go_sem high] eqA31
def catchpitref05_Great.l0 : Nat → List (S37) → Int → Int → Option (Bool)
  | 0, _, _, _ => none
  | k + 1, x0, x3, x4 => if x4 < (x0.length : Int) then (if x3 ≤ 2000 then (if 0 ≤ x4 then (catchpitref05_Great.l0 k x0 (wrap64 ((wrap64 ((wrap64 (x3 + (((rd_T37 x0 x4).f0).size : Int))) + (((rd_T37 x0 x4).f1).size : Int))) + 1)) (wrap64 (x4 + 1))) else (none)) else (some (decide (x3 > 2000)))) else (some (decide (x3 > 2000)))
def catchpitref05_Great.f (k : Nat) (l0 : List (S37)) : Option (Bool) := catchpitref05_Great.l0 k l0 0 0
theorem catchpitref05_Great.mono_l : ∀ k, (∀ y0 y1 y2, LeO (catchpitref05_Great.l0 k y0 y1 y2) (catchpitref05_Great.l0 (k + 1) y0 y1 y2))
  | 0 => fun _ _ _ r h => by simp [catchpitref05_Great.l0] at h
  | k + 1 => by
    have ih0 := catchpitref05_Great.mono_l k
    · intro y0 y1 y2
      unfold catchpitref05_Great.l0
      repeat' first
      | (with_reducible exact ih0 _ _ _)
      | (with_reducible exact LeO.refl _)
      | (with_reducible exact LeO.none _)
      | (with_reducible refine LeO.ite ?_ ?_)
      | (with_reducible refine LeO.bind ?_ (fun _ => ?_))
      | exact ih0 _ _ _
      | exact LeO.none _
      | refine LeO.ite ?_ ?_
      | refine LeO.bind ?_ (fun _ => ?_)
theorem catchpitref05_Great.mono : ∀ a0 k, LeO (catchpitref05_Great.f k a0) (catchpitref05_Great.f (k + 1) a0) := by
  intro a0 k
  have ih0 := catchpitref05_Great.mono_l k
  unfold catchpitref05_Great.f
  repeat' first
      | (with_reducible exact ih0 _ _ _)
      | (with_reducible exact LeO.refl _)
      | (with_reducible exact LeO.none _)
      | (with_reducible refine LeO.ite ?_ ?_)
      | (with_reducible refine LeO.bind ?_ (fun _ => ?_))
      | exact ih0 _ _ _
      | exact LeO.none _
      | refine LeO.ite ?_ ?_
      | refine LeO.bind ?_ (fun _ => ?_)
set_option maxHeartbeats 8000000 in
set_option maxRecDepth 100000 in
theorem catchpitref05_Great.calls (k : Nat) (A0 : Option Addr) (c0 : Nat) (l0 : List (S37)) (r : Bool) (w : World) (hr0 : Kd.C k37 w A0 l0.length l0) (hc0 : l0.length ≤ c0) (hG : TabOk w) (h : catchpitref05_Great.f k l0 = some r) :
    Calls Tryd.prog 37 #[.slice A0 l0.length c0] w fun e w' => e = .returned (.bool r) ∧ Drawn0 w w' := by
  have HR0 := Aside0.mk hr0
  have HC0 := Aside0.mk hc0
  clear hr0 hc0
  have H : (catchpitref05_Great.l0 k l0 0 0) = some r := h
  clear h
  have H' := Aside0.mk H
  clear H
  go_enter Tryd.func37, Tryd.ntmps37
  go_wp2
  repeat (go_quiet (fail); try go_wp2)
  go_loopg [3, 4] k (fun kq v3 v4 w' => ∃ (x3_1 : Int) (x4_1 : Int), v3 = .int .i64 x3_1 ∧ v4 = .int .i64 x4_1 ∧ Aside0 (catchpitref05_Great.l0 kq l0 x3_1 x4_1 = some r) ∧ Aside0 (kq ≤ k) ∧ Drawn0 w w')
  case atStart => exact ⟨(0), (0), (by first | rfl | (simp; done) | (simp [*]; done)), (by first | rfl | (simp; done) | (simp [*]; done)), H', ⟨Nat.le_refl _⟩, by repeat (first | exact Drawn0.refl _ | apply Drawn0.step)⟩
  case round =>
    clear H'
    obtain ⟨x3_1, x4_1, rfl, rfl, HA, HK1, ⟨m1, rfl⟩⟩ := hrel
    cases gk with
    | zero => exact absurd HA.out (by simp [catchpitref05_Great.l0])
    | succ k1 =>
      have H := HA.out
      clear HA
      simp only [catchpitref05_Great.l0] at H
      by_cases c2 : x4_1 < (l0.length : Int)
      · rw [if_pos c2] at H
        have c2b0 : decide (x4_1 < (l0.length : Int)) = true := decide_eq_true c2
        clear c2
        by_cases c3 : x3_1 ≤ 2000
        · rw [if_pos c3] at H
          have c3b0 : decide (x3_1 ≤ 2000) = true := decide_eq_true c3
          clear c3
          by_cases c4 : 0 ≤ x4_1
          · rw [if_pos c4] at H
            have c4b0 : decide (0 ≤ x4_1) = true := decide_eq_true c4
            clear c4
            have H' := Aside0.mk H
            clear H
            have p108 : 0 ≤ (x4_1 : Int) := of_decide_eq_true (by first | (with_reducible assumption) | assumption)
            have q108 : x4_1 < (l0.length : Int) := of_decide_eq_true (by first | (with_reducible assumption) | assumption)
            obtain ⟨ad108, e108, hx108_0, hx108_1⟩ := at_T37 HR0.out x4_1 p108 q108
            cases e108
            replace p108 := eq_true p108
            replace q108 := eq_true q108
            have p109 : 0 ≤ (x4_1 : Int) := of_decide_eq_true (by first | (with_reducible assumption) | assumption)
            have q109 : x4_1 < (l0.length : Int) := of_decide_eq_true (by first | (with_reducible assumption) | assumption)
            obtain ⟨ad109, e109, hx109_0, hx109_1⟩ := at_T37 HR0.out x4_1 p109 q109
            obtain rfl : ad108 = ad109 := (by injection e109)
            replace p109 := eq_true p109
            replace q109 := eq_true q109
            go_wp2
            repeat (go_quiet (fail); try go_wp2)
            go_roundg k1
            case measure => have := HK1.out; omega
            case rel => exact ⟨(wrap64 ((wrap64 ((wrap64 (x3_1 + (((rd_T37 l0 x4_1).f0).size : Int))) + (((rd_T37 l0 x4_1).f1).size : Int))) + 1)), (wrap64 (x4_1 + 1)), (by first | rfl | (simp; done) | (simp [*]; done)), (by first | rfl | (simp; done) | (simp [*]; done)), H', ⟨by have := HK1.out; omega⟩, by repeat (first | exact Drawn0.refl _ | apply Drawn0.step)⟩
          · rw [if_neg c4] at H
            exact absurd H (by simp)
        · rw [if_neg c3] at H
          have c3b0 : decide (x3_1 ≤ 2000) = false := decide_eq_false c3
          clear c3
          obtain rfl := Option.some.inj H
          go_wp2
          repeat (go_quiet (fail); try go_wp2)
          go_ret
          exact ⟨by first | rfl | (simp; done) | (simp [*]; done), by repeat (first | exact Drawn0.refl _ | apply Drawn0.step)⟩
      · rw [if_neg c2] at H
        have c2b0 : decide (x4_1 < (l0.length : Int)) = false := decide_eq_false c2
        clear c2
        obtain rfl := Option.some.inj H
        go_wp2
        repeat (go_quiet (fail); try go_wp2)
        go_ret
        exact ⟨by first | rfl | (simp; done) | (simp [*]; done), by repeat (first | exact Drawn0.refl _ | apply Drawn0.step)⟩
def catchpitref25_Great.f (k : Nat) (a0_0 : Int) (a0_1 : Int) (a0_2 : Int) (a0_3 : Int) (a0_4 : Int) (a0_5 : Int) (l0_6 : List (S37)) : Option (Bool) := (catchpitref05_Great.f k l0_6).bind fun t111 => (some t111)
theorem catchpitref25_Great.mono : ∀ a0 a1 a2 a3 a4 a5 a6 k, LeO (catchpitref25_Great.f k a0 a1 a2 a3 a4 a5 a6) (catchpitref25_Great.f (k + 1) a0 a1 a2 a3 a4 a5 a6) := by
  intro a0 a1 a2 a3 a4 a5 a6 k
  unfold catchpitref25_Great.f
  repeat' first
      | (with_reducible exact catchpitref05_Great.mono _ _)
      | (with_reducible exact LeO.refl _)
      | (with_reducible exact LeO.none _)
      | (with_reducible refine LeO.ite ?_ ?_)
      | (with_reducible refine LeO.bind ?_ (fun _ => ?_))
      | exact catchpitref05_Great.mono _ _
      | exact LeO.none _
      | refine LeO.ite ?_ ?_
      | refine LeO.bind ?_ (fun _ => ?_)
set_option maxHeartbeats 8000000 in
set_option maxRecDepth 100000 in
theorem catchpitref25_Great.calls (k : Nat) (a0_0 : Int) (a0_1 : Int) (a0_2 : Int) (a0_3 : Int) (a0_4 : Int) (a0_5 : Int) (A0_6 : Option Addr) (c0_6 : Nat) (l0_6 : List (S37)) (r : Bool) (w : World) (hr0_6 : Kd.C k37 w A0_6 l0_6.length l0_6) (hc0_6 : l0_6.length ≤ c0_6) (hG : TabOk w) (h : catchpitref25_Great.f k a0_0 a0_1 a0_2 a0_3 a0_4 a0_5 l0_6 = some r) :
    Calls Tryd.prog 14 #[.agg #[.int .i64 a0_0, .int .i64 a0_1, .int .u64 a0_2, .int .i64 a0_3, .int .u64 a0_4, .int .i64 a0_5, .slice A0_6 l0_6.length c0_6]] w fun e w' => e = .returned (.bool r) ∧ Below w.heap.size w w' := by
  have hu27 := Tryd.underlying27
  have HR0_6 := Aside0.mk hr0_6
  have HC0_6 := Aside0.mk hc0_6
  clear hr0_6 hc0_6
  have HB := Aside0.mk (Below.refl w.heap.size w)
  have H : ((catchpitref05_Great.f k l0_6).bind fun t111 => (some t111)) = some r := h
  clear h
  replace H := Option.bind_eq_some_iff.mp H
  obtain ⟨t111, A20, H⟩ := H
  replace H : (some t111) = some r := H
  have A2 := Aside0.mk A20
  clear A20
  obtain rfl := Option.some.inj H
  go_enter Tryd.func14, Tryd.ntmps14
  go_wp2_with (first | ((with_reducible refine gate_dst (N := 1) rfl ?_); refine box_event ?hg (N := 1) ?hd (cs := #[.int .i64 a0_0, .int .i64 a0_1, .int .u64 a0_2, .int .i64 a0_3, .int .u64 a0_4, .int .i64 a0_5, .slice A0_6 l0_6.length c0_6]) (t := 27) ?hr ?_; (case hd => rfl); (case hg => rfl); (case hr => first | (go_simp; done) | (go_simp; rfl)); intro gb110 hg w3 hbox hb; have n0_ := Aside0.mk (below_step (by repeat (first | (with_reducible first | exact HB.out | apply below_alloc | apply pw_below_drewN | apply below_drew1) | exact HB.out)) hb); have n1_ := Aside0.mk (hbox); have n2_ := Aside0.mk ((by rw [hg]; exact (below_size (by repeat (first | (with_reducible first | exact HB.out | apply below_alloc | apply pw_below_drewN | apply below_drew1) | exact HB.out))) : w.heap.size ≤ gb110)); have n3_ := Aside0.mk ((by rw [hg]; exact (below_size (by repeat (first | (with_reducible first | exact HB.out | apply below_alloc | apply pw_below_drewN | apply below_drew1) | exact HB.out))) : w.heap.size ≤ gb110)); clear HB; have HB := n0_; have BK110 := n1_; have GW110 := n2_; have GE110 := n3_; clear n0_ n1_ n2_ n3_; clear hb hbox hg; have hcz4_0 : w3.cell? ⟨gb110, 0, none⟩ = some (.int .i64 a0_0) := (blk_cell BK110.out 0).trans rfl; have hcz4_1 : w3.cell? ⟨gb110, 1, none⟩ = some (.int .i64 a0_1) := (blk_cell BK110.out 1).trans rfl; have hcz4_2 : w3.cell? ⟨gb110, 2, none⟩ = some (.int .u64 a0_2) := (blk_cell BK110.out 2).trans rfl; have hcz4_3 : w3.cell? ⟨gb110, 3, none⟩ = some (.int .i64 a0_3) := (blk_cell BK110.out 3).trans rfl; have hcz4_4 : w3.cell? ⟨gb110, 4, none⟩ = some (.int .u64 a0_4) := (blk_cell BK110.out 4).trans rfl; have hcz4_5 : w3.cell? ⟨gb110, 5, none⟩ = some (.int .i64 a0_5) := (blk_cell BK110.out 5).trans rfl; have hcz4_6 : w3.cell? ⟨gb110, 6, none⟩ = some (.slice A0_6 l0_6.length c0_6) := (blk_cell BK110.out 6).trans rfl; have hfz4_0 := blk_frozen BK110.out 0; have hfz4_1 := blk_frozen BK110.out 1; have hfz4_2 := blk_frozen BK110.out 2; have hfz4_3 := blk_frozen BK110.out 3; have hfz4_4 := blk_frozen BK110.out 4; have hfz4_5 := blk_frozen BK110.out 5; have hfz4_6 := blk_frozen BK110.out 6) | ((with_reducible refine gate_callee (f := 37) rfl ?_); refine goesL_ (some 5) rfl rfl Tryd.func37 (by kernel_rfl) rfl #[.slice A0_6 l0_6.length c0_6] rfl (by (try simp only [List.map_toArray, List.map_cons, List.map_nil]); first | done | rfl | (simp only [List.length_drop, List.length_take]; rfl)) ?_; (with_reducible refine (catchpitref05_Great.calls k _ _ l0_6 t111 _ ?side1 ?side2 ?side3 A2.out).mono ?_); (case side1 => repeat (first | exact (Kd.C_below HR0_6.out HB.out) | (with_reducible refine Kd.C_alloc ?_ _) | (with_reducible refine Kd.C_drewN ?_ _) | (with_reducible refine Kd.C_drew ?_))); (case side2 => exact HC0_6.out); (case side3 => first | exact hG | exact TabOk.drewN hG _ | exact TabOk.drewN (TabOk.drewN hG _) _ | exact TabOk.below hG (by repeat (first | (with_reducible first | exact HB.out | apply below_alloc | apply pw_below_drewN | apply below_drew1 | refine below_set ?_ GE110.out) | exact HB.out))); rintro e w' ⟨rfl, ⟨nd, rfl⟩⟩; refine ⟨_, rfl, ?_⟩))
  go_ret
  exact ⟨by first | rfl | (simp [errW_none, errW_some] <;> rfl) | (simp [*, errW_none, errW_some] <;> rfl), by repeat (first | (with_reducible first | exact HB.out | apply below_alloc | apply pw_below_drewN | apply below_drew1 | refine below_set ?_ GE110.out) | exact HB.out)⟩
def catchpitlaw25_of.f (a0_0 : Int) (a0_1 : Int) (a0_2 : Int) (a0_3 : Int) (a0_4 : Int) (a0_5 : Int) (l0_6 : List (S37)) : Option (Int × Int × Int × Int × Int × Int × (List (S37))) := some (a0_0, a0_1, a0_2, a0_3, a0_4, a0_5, l0_6)
def catchpitref25_Well.f (a0_0 : Int) (a0_1 : Int) (a0_2 : Int) (a0_3 : Int) (a0_4 : Int) (a0_5 : Int) (l0_6 : List (S37)) : Option (Bool) := if a0_0 = 1 then (some true) else (if a0_0 = 0 then (some (a0_1 == 0)) else (some false))
def catchpitref07_cut.l0 : Nat → ByteArray → Int → List ByteArray → Int → Int → Option (List ByteArray)
  | 0, _, _, _, _, _ => none
  | k + 1, x0, x1, x5, x6, x7 => if x7 ≤ (x0.size : Int) then (if x7 = (x0.size : Int) then (if 0 ≤ x6 then (if x6 ≤ x7 then (if x5.length < 8796093022208 then (catchpitref07_cut.l0 k x0 x1 (x5 ++ [x0.extract (x6 : Int).toNat (x7 : Int).toNat]) (wrap64 (x7 + 1)) (wrap64 (x7 + 1))) else (none)) else (none)) else (none)) else (if 0 ≤ x7 then (if x7 < (x0.size : Int) then (if (bt x0 x7) = x1 then (if 0 ≤ x6 then (if x6 ≤ x7 then (if x5.length < 8796093022208 then (catchpitref07_cut.l0 k x0 x1 (x5 ++ [x0.extract (x6 : Int).toNat (x7 : Int).toNat]) (wrap64 (x7 + 1)) (wrap64 (x7 + 1))) else (none)) else (none)) else (none)) else (catchpitref07_cut.l0 k x0 x1 x5 x6 (wrap64 (x7 + 1)))) else (none)) else (none))) else (some x5)
def catchpitref07_cut.f (k : Nat) (a0 : ByteArray) (a1 : Int) : Option (List ByteArray) := catchpitref07_cut.l0 k a0 a1 ([] : List ByteArray) 0 0
theorem catchpitref07_cut.mono_l : ∀ k, (∀ y0 y1 y2 y3 y4, LeO (catchpitref07_cut.l0 k y0 y1 y2 y3 y4) (catchpitref07_cut.l0 (k + 1) y0 y1 y2 y3 y4))
  | 0 => fun _ _ _ _ _ r h => by simp [catchpitref07_cut.l0] at h
  | k + 1 => by
    have ih0 := catchpitref07_cut.mono_l k
    · intro y0 y1 y2 y3 y4
      unfold catchpitref07_cut.l0
      repeat' first
      | (with_reducible exact ih0 _ _ _ _ _)
      | (with_reducible exact LeO.refl _)
      | (with_reducible exact LeO.none _)
      | (with_reducible refine LeO.ite ?_ ?_)
      | (with_reducible refine LeO.bind ?_ (fun _ => ?_))
      | exact ih0 _ _ _ _ _
      | exact LeO.none _
      | refine LeO.ite ?_ ?_
      | refine LeO.bind ?_ (fun _ => ?_)
theorem catchpitref07_cut.mono : ∀ a0 a1 k, LeO (catchpitref07_cut.f k a0 a1) (catchpitref07_cut.f (k + 1) a0 a1) := by
  intro a0 a1 k
  have ih0 := catchpitref07_cut.mono_l k
  unfold catchpitref07_cut.f
  repeat' first
      | (with_reducible exact ih0 _ _ _ _ _)
      | (with_reducible exact LeO.refl _)
      | (with_reducible exact LeO.none _)
      | (with_reducible refine LeO.ite ?_ ?_)
      | (with_reducible refine LeO.bind ?_ (fun _ => ?_))
      | exact ih0 _ _ _ _ _
      | exact LeO.none _
      | refine LeO.ite ?_ ?_
      | refine LeO.bind ?_ (fun _ => ?_)
def catchpitref02_blank.f (a0 : Int) : Option (Bool) := if a0 = 32 then (some true) else (some (a0 == 9))
mutual
def catchpitref02_Trim.j1 : Nat → ByteArray → Option (ByteArray)
  | 0, _ => none
  | k + 1, x0 => catchpitref02_Trim.l1 k x0
def catchpitref02_Trim.l1 : Nat → ByteArray → Option (ByteArray)
  | 0, _ => none
  | k + 1, x0 => if (x0.size : Int) > 0 then (if 0 ≤ (wrap64 ((x0.size : Int) - 1)) then (if (wrap64 ((x0.size : Int) - 1)) < (x0.size : Int) then ((catchpitref02_blank.f (bt x0 (wrap64 ((x0.size : Int) - 1)))).bind fun t151 => (if t151 = true then (if (wrap64 ((x0.size : Int) - 1)) ≤ (x0.size : Int) then (catchpitref02_Trim.l1 k (x0.extract 0 ((wrap64 ((x0.size : Int) - 1)) : Int).toNat)) else (none)) else (some x0))) else (none)) else (none)) else (some x0)
def catchpitref02_Trim.l0 : Nat → ByteArray → Option (ByteArray)
  | 0, _ => none
  | k + 1, x0 => if (x0.size : Int) > 0 then (if 0 < (x0.size : Int) then ((catchpitref02_blank.f (bt x0 0)).bind fun t150 => (if t150 = true then (if 1 ≤ (x0.size : Int) then (catchpitref02_Trim.l0 k (x0.extract 1 x0.size)) else (none)) else (catchpitref02_Trim.j1 k x0))) else (none)) else (catchpitref02_Trim.j1 k x0)
end
def catchpitref02_Trim.f (k : Nat) (a0 : ByteArray) : Option (ByteArray) := catchpitref02_Trim.l0 k a0
theorem catchpitref02_Trim.mono_l : ∀ k, (∀ y0, LeO (catchpitref02_Trim.j1 k y0) (catchpitref02_Trim.j1 (k + 1) y0)) ∧ (∀ y0, LeO (catchpitref02_Trim.l1 k y0) (catchpitref02_Trim.l1 (k + 1) y0)) ∧ (∀ y0, LeO (catchpitref02_Trim.l0 k y0) (catchpitref02_Trim.l0 (k + 1) y0))
  | 0 => ⟨fun _ r h => by simp [catchpitref02_Trim.j1] at h, fun _ r h => by simp [catchpitref02_Trim.l1] at h, fun _ r h => by simp [catchpitref02_Trim.l0] at h⟩
  | k + 1 => by
    obtain ⟨ih0, ih1, ih2⟩ := catchpitref02_Trim.mono_l k
    refine ⟨?_, ?_, ?_⟩
    · intro y0
      unfold catchpitref02_Trim.j1
      repeat' first
      | (with_reducible exact ih0 _)
      | (with_reducible exact ih1 _)
      | (with_reducible exact ih2 _)
      | (with_reducible exact LeO.refl _)
      | (with_reducible exact LeO.none _)
      | (with_reducible refine LeO.ite ?_ ?_)
      | (with_reducible refine LeO.bind ?_ (fun _ => ?_))
      | exact ih0 _
      | exact ih1 _
      | exact ih2 _
      | exact LeO.none _
      | refine LeO.ite ?_ ?_
      | refine LeO.bind ?_ (fun _ => ?_)
    · intro y0
      unfold catchpitref02_Trim.l1
      repeat' first
      | (with_reducible exact ih0 _)
      | (with_reducible exact ih1 _)
      | (with_reducible exact ih2 _)
      | (with_reducible exact LeO.refl _)
      | (with_reducible exact LeO.none _)
      | (with_reducible refine LeO.ite ?_ ?_)
      | (with_reducible refine LeO.bind ?_ (fun _ => ?_))
      | exact ih0 _
      | exact ih1 _
      | exact ih2 _
      | exact LeO.none _
      | refine LeO.ite ?_ ?_
      | refine LeO.bind ?_ (fun _ => ?_)
    · intro y0
      unfold catchpitref02_Trim.l0
      repeat' first
      | (with_reducible exact ih0 _)
      | (with_reducible exact ih1 _)
      | (with_reducible exact ih2 _)
      | (with_reducible exact LeO.refl _)
      | (with_reducible exact LeO.none _)
      | (with_reducible refine LeO.ite ?_ ?_)
      | (with_reducible refine LeO.bind ?_ (fun _ => ?_))
      | exact ih0 _
      | exact ih1 _
      | exact ih2 _
      | exact LeO.none _
      | refine LeO.ite ?_ ?_
      | refine LeO.bind ?_ (fun _ => ?_)
theorem catchpitref02_Trim.mono : ∀ a0 k, LeO (catchpitref02_Trim.f k a0) (catchpitref02_Trim.f (k + 1) a0) := by
  intro a0 k
  obtain ⟨ih0, ih1, ih2⟩ := catchpitref02_Trim.mono_l k
  unfold catchpitref02_Trim.f
  repeat' first
      | (with_reducible exact ih0 _)
      | (with_reducible exact ih1 _)
      | (with_reducible exact ih2 _)
      | (with_reducible exact LeO.refl _)
      | (with_reducible exact LeO.none _)
      | (with_reducible refine LeO.ite ?_ ?_)
      | (with_reducible refine LeO.bind ?_ (fun _ => ?_))
      | exact ih0 _
      | exact ih1 _
      | exact ih2 _
      | exact LeO.none _
      | refine LeO.ite ?_ ?_
      | refine LeO.bind ?_ (fun _ => ?_)
end Go.Proofs.YtofegjgiocljlaaDoor.Pr
end
section
namespace Go.Proofs.YtofegjgiocljlaaDoor.Pr
open Go.RowKit Go.Proofs.YtofegjgiocljlaaDoorH Go.Proofs.YtofegjgiocljlaaDoorW.PrintWords Go.Proofs.YtofegjgiocljlaaDoorW.PrintLast Go.Proofs.YtofegjgiocljlaaDoorW.PrintMore
attribute [local go_sem] max2_int min2_int max_two min_two max_three min_three max_four min_four   -- for this text's walks alone
set_option linter.unusedVariables false
set_option linter.unusedSimpArgs false
mutual
def catchpitref07_Items.l0 : Nat → List ByteArray → List ByteArray → Int → Option (List ByteArray)
  | 0, _, _, _ => none
  | k + 1, x0, x3, x4 => if x4 < (x0.length : Int) then (if 0 ≤ x4 then ((catchpitref07_cut.f k (rdOf ByteArray.empty x0 x4) 44).bind fun t153 => (catchpitref07_Items.l1 k x0 x3 x4 t153 0)) else (none)) else (some x3)
def catchpitref07_Items.l1 : Nat → List ByteArray → List ByteArray → Int → List ByteArray → Int → Option (List ByteArray)
  | 0, _, _, _, _, _ => none
  | k + 1, x0, x3, x4, x5, x6 => if x6 < (x5.length : Int) then (if 0 ≤ x6 then ((catchpitref02_Trim.f k (rdOf ByteArray.empty x5 x6)).bind fun t157 => (if (t157.size : Int) > 0 then (if x3.length < 8796093022208 then (catchpitref07_Items.l1 k x0 (x3 ++ [t157]) x4 x5 (wrap64 (x6 + 1))) else (none)) else (catchpitref07_Items.l1 k x0 x3 x4 x5 (wrap64 (x6 + 1))))) else (none)) else (catchpitref07_Items.l0 k x0 x3 (wrap64 (x4 + 1)))
end
def catchpitref07_Items.f (k : Nat) (l0 : List ByteArray) : Option (List ByteArray) := catchpitref07_Items.l0 k l0 ([] : List ByteArray) 0
theorem catchpitref07_Items.mono_l : ∀ k, (∀ y0 y1 y2, LeO (catchpitref07_Items.l0 k y0 y1 y2) (catchpitref07_Items.l0 (k + 1) y0 y1 y2)) ∧ (∀ y0 y1 y2 y3 y4, LeO (catchpitref07_Items.l1 k y0 y1 y2 y3 y4) (catchpitref07_Items.l1 (k + 1) y0 y1 y2 y3 y4))
  | 0 => ⟨fun _ _ _ r h => by simp [catchpitref07_Items.l0] at h, fun _ _ _ _ _ r h => by simp [catchpitref07_Items.l1] at h⟩
  | k + 1 => by
    obtain ⟨ih0, ih1⟩ := catchpitref07_Items.mono_l k
    refine ⟨?_, ?_⟩
    · intro y0 y1 y2
      unfold catchpitref07_Items.l0
      repeat' first
      | (with_reducible exact ih0 _ _ _)
      | (with_reducible exact ih1 _ _ _ _ _)
      | (with_reducible exact catchpitref02_Trim.mono _ _)
      | (with_reducible exact catchpitref07_cut.mono _ _ _)
      | (with_reducible exact LeO.refl _)
      | (with_reducible exact LeO.none _)
      | (with_reducible refine LeO.ite ?_ ?_)
      | (with_reducible refine LeO.bind ?_ (fun _ => ?_))
      | exact ih0 _ _ _
      | exact ih1 _ _ _ _ _
      | exact catchpitref02_Trim.mono _ _
      | exact catchpitref07_cut.mono _ _ _
      | exact LeO.none _
      | refine LeO.ite ?_ ?_
      | refine LeO.bind ?_ (fun _ => ?_)
    · intro y0 y1 y2 y3 y4
      unfold catchpitref07_Items.l1
      repeat' first
      | (with_reducible exact ih0 _ _ _)
      | (with_reducible exact ih1 _ _ _ _ _)
      | (with_reducible exact catchpitref02_Trim.mono _ _)
      | (with_reducible exact catchpitref07_cut.mono _ _ _)
      | (with_reducible exact LeO.refl _)
      | (with_reducible exact LeO.none _)
      | (with_reducible refine LeO.ite ?_ ?_)
      | (with_reducible refine LeO.bind ?_ (fun _ => ?_))
      | exact ih0 _ _ _
      | exact ih1 _ _ _ _ _
      | exact catchpitref02_Trim.mono _ _
      | exact catchpitref07_cut.mono _ _ _
      | exact LeO.none _
      | refine LeO.ite ?_ ?_
      | refine LeO.bind ?_ (fun _ => ?_)
theorem catchpitref07_Items.mono : ∀ a0 k, LeO (catchpitref07_Items.f k a0) (catchpitref07_Items.f (k + 1) a0) := by
  intro a0 k
  obtain ⟨ih0, ih1⟩ := catchpitref07_Items.mono_l k
  unfold catchpitref07_Items.f
  repeat' first
      | (with_reducible exact ih0 _ _ _)
      | (with_reducible exact ih1 _ _ _ _ _)
      | (with_reducible exact catchpitref02_Trim.mono _ _)
      | (with_reducible exact catchpitref07_cut.mono _ _ _)
      | (with_reducible exact LeO.refl _)
      | (with_reducible exact LeO.none _)
      | (with_reducible refine LeO.ite ?_ ?_)
      | (with_reducible refine LeO.bind ?_ (fun _ => ?_))
      | exact ih0 _ _ _
      | exact ih1 _ _ _ _ _
      | exact catchpitref02_Trim.mono _ _
      | exact catchpitref07_cut.mono _ _ _
      | exact LeO.none _
      | refine LeO.ite ?_ ?_
      | refine LeO.bind ?_ (fun _ => ?_)
def catchpitref07_word.f (k : Nat) (a0 : ByteArray) : Option (ByteArray) := (catchpitref07_cut.f k a0 59).bind fun t161 => (if 0 < (t161.length : Int) then ((catchpitref02_Trim.f k (rdOf ByteArray.empty t161 0)).bind fun t165 => (some t165)) else (none))
theorem catchpitref07_word.mono : ∀ a0 k, LeO (catchpitref07_word.f k a0) (catchpitref07_word.f (k + 1) a0) := by
  intro a0 k
  unfold catchpitref07_word.f
  repeat' first
      | (with_reducible exact catchpitref02_Trim.mono _ _)
      | (with_reducible exact catchpitref07_cut.mono _ _ _)
      | (with_reducible exact LeO.refl _)
      | (with_reducible exact LeO.none _)
      | (with_reducible refine LeO.ite ?_ ?_)
      | (with_reducible refine LeO.bind ?_ (fun _ => ?_))
      | exact catchpitref02_Trim.mono _ _
      | exact catchpitref07_cut.mono _ _ _
      | exact LeO.none _
      | refine LeO.ite ?_ ?_
      | refine LeO.bind ?_ (fun _ => ?_)
def catchpitref02_Small.l0 : Nat → ByteArray → List Int → Int → Option (ByteArray)
  | 0, _, _, _ => none
  | k + 1, x0, x3, x4 => if x4 < (x0.size : Int) then (if 0 ≤ x4 then (if (bt x0 x4) ≥ 65 then (if (bt x0 x4) ≤ 90 then (if x3.length < 140737488355328 then (catchpitref02_Small.l0 k x0 (x3 ++ [((bt x0 x4) + 32) % 256]) (wrap64 (x4 + 1))) else (none)) else (if x3.length < 140737488355328 then (catchpitref02_Small.l0 k x0 (x3 ++ [bt x0 x4]) (wrap64 (x4 + 1))) else (none))) else (if x3.length < 140737488355328 then (catchpitref02_Small.l0 k x0 (x3 ++ [bt x0 x4]) (wrap64 (x4 + 1))) else (none))) else (none)) else (some (strOfNums x3))
def catchpitref02_Small.f (k : Nat) (a0 : ByteArray) : Option (ByteArray) := catchpitref02_Small.l0 k a0 ([] : List Int) 0
theorem catchpitref02_Small.mono_l : ∀ k, (∀ y0 y1 y2, LeO (catchpitref02_Small.l0 k y0 y1 y2) (catchpitref02_Small.l0 (k + 1) y0 y1 y2))
  | 0 => fun _ _ _ r h => by simp [catchpitref02_Small.l0] at h
  | k + 1 => by
    have ih0 := catchpitref02_Small.mono_l k
    · intro y0 y1 y2
      unfold catchpitref02_Small.l0
      repeat' first
      | (with_reducible exact ih0 _ _ _)
      | (with_reducible exact LeO.refl _)
      | (with_reducible exact LeO.none _)
      | (with_reducible refine LeO.ite ?_ ?_)
      | (with_reducible refine LeO.bind ?_ (fun _ => ?_))
      | exact ih0 _ _ _
      | exact LeO.none _
      | refine LeO.ite ?_ ?_
      | refine LeO.bind ?_ (fun _ => ?_)
theorem catchpitref02_Small.mono : ∀ a0 k, LeO (catchpitref02_Small.f k a0) (catchpitref02_Small.f (k + 1) a0) := by
  intro a0 k
  have ih0 := catchpitref02_Small.mono_l k
  unfold catchpitref02_Small.f
  repeat' first
      | (with_reducible exact ih0 _ _ _)
      | (with_reducible exact LeO.refl _)
      | (with_reducible exact LeO.none _)
      | (with_reducible refine LeO.ite ?_ ?_)
      | (with_reducible refine LeO.bind ?_ (fun _ => ?_))
      | exact ih0 _ _ _
      | exact LeO.none _
      | refine LeO.ite ?_ ?_
      | refine LeO.bind ?_ (fun _ => ?_)
def catchpitref07_Has.l0 : Nat → ByteArray → List ByteArray → Int → Option (Bool)
  | 0, _, _, _ => none
  | k + 1, x0, x5, x6 => if x6 < (x5.length : Int) then (if 0 ≤ x6 then ((catchpitref07_word.f k (rdOf ByteArray.empty x5 x6)).bind fun t179 => ((catchpitref02_Small.f k t179).bind fun t180 => ((catchpitref02_Small.f k x0).bind fun t181 => (if t180.toList = t181.toList then (some true) else (catchpitref07_Has.l0 k x0 x5 (wrap64 (x6 + 1))))))) else (none)) else (some false)
def catchpitref07_Has.f (k : Nat) (a0 : ByteArray) (l1 : List ByteArray) : Option (Bool) := (catchpitref07_Items.f k l1).bind fun t175 => (catchpitref07_Has.l0 k a0 t175 0)
theorem catchpitref07_Has.mono_l : ∀ k, (∀ y0 y1 y2, LeO (catchpitref07_Has.l0 k y0 y1 y2) (catchpitref07_Has.l0 (k + 1) y0 y1 y2))
  | 0 => fun _ _ _ r h => by simp [catchpitref07_Has.l0] at h
  | k + 1 => by
    have ih0 := catchpitref07_Has.mono_l k
    · intro y0 y1 y2
      unfold catchpitref07_Has.l0
      repeat' first
      | (with_reducible exact ih0 _ _ _)
      | (with_reducible exact catchpitref02_Small.mono _ _)
      | (with_reducible exact catchpitref07_Items.mono _ _)
      | (with_reducible exact catchpitref07_word.mono _ _)
      | (with_reducible exact LeO.refl _)
      | (with_reducible exact LeO.none _)
      | (with_reducible refine LeO.ite ?_ ?_)
      | (with_reducible refine LeO.bind ?_ (fun _ => ?_))
      | exact ih0 _ _ _
      | exact catchpitref02_Small.mono _ _
      | exact catchpitref07_Items.mono _ _
      | exact catchpitref07_word.mono _ _
      | exact LeO.none _
      | refine LeO.ite ?_ ?_
      | refine LeO.bind ?_ (fun _ => ?_)
theorem catchpitref07_Has.mono : ∀ a0 a1 k, LeO (catchpitref07_Has.f k a0 a1) (catchpitref07_Has.f (k + 1) a0 a1) := by
  intro a0 a1 k
  have ih0 := catchpitref07_Has.mono_l k
  unfold catchpitref07_Has.f
  repeat' first
      | (with_reducible exact ih0 _ _ _)
      | (with_reducible exact catchpitref02_Small.mono _ _)
      | (with_reducible exact catchpitref07_Items.mono _ _)
      | (with_reducible exact catchpitref07_word.mono _ _)
      | (with_reducible exact LeO.refl _)
      | (with_reducible exact LeO.none _)
      | (with_reducible refine LeO.ite ?_ ?_)
      | (with_reducible refine LeO.bind ?_ (fun _ => ?_))
      | exact ih0 _ _ _
      | exact catchpitref02_Small.mono _ _
      | exact catchpitref07_Items.mono _ _
      | exact catchpitref07_word.mono _ _
      | exact LeO.none _
      | refine LeO.ite ?_ ?_
      | refine LeO.bind ?_ (fun _ => ?_)
def catchpitref05_Is.f (k : Nat) (a0_0 : ByteArray) (a0_1 : ByteArray) (a1 : ByteArray) : Option (Bool) := (catchpitref02_Small.f k a0_0).bind fun t183 => ((catchpitref02_Small.f k a1).bind fun t184 => (some (t183.toList == t184.toList)))
theorem catchpitref05_Is.mono : ∀ a0 a1 a2 k, LeO (catchpitref05_Is.f k a0 a1 a2) (catchpitref05_Is.f (k + 1) a0 a1 a2) := by
  intro a0 a1 a2 k
  unfold catchpitref05_Is.f
  repeat' first
      | (with_reducible exact catchpitref02_Small.mono _ _)
      | (with_reducible exact LeO.refl _)
      | (with_reducible exact LeO.none _)
      | (with_reducible refine LeO.ite ?_ ?_)
      | (with_reducible refine LeO.bind ?_ (fun _ => ?_))
      | exact catchpitref02_Small.mono _ _
      | exact LeO.none _
      | refine LeO.ite ?_ ?_
      | refine LeO.bind ?_ (fun _ => ?_)
def catchpitref05_Get.l0 : Nat → List (S37) → ByteArray → List ByteArray → Int → Option (List ByteArray)
  | 0, _, _, _, _ => none
  | k + 1, x0, x1, x5, x6 => if x6 < (x0.length : Int) then (if 0 ≤ x6 then ((catchpitref05_Is.f k ((rd_T37 x0 x6).f0) ((rd_T37 x0 x6).f1) x1).bind fun t186 => (if t186 = true then (if x5.length < 8796093022208 then (catchpitref05_Get.l0 k x0 x1 (x5 ++ [(rd_T37 x0 x6).f1]) (wrap64 (x6 + 1))) else (none)) else (catchpitref05_Get.l0 k x0 x1 x5 (wrap64 (x6 + 1))))) else (none)) else (some x5)
def catchpitref05_Get.f (k : Nat) (l0 : List (S37)) (a1 : ByteArray) : Option (List ByteArray) := catchpitref05_Get.l0 k l0 a1 ([] : List ByteArray) 0
theorem catchpitref05_Get.mono_l : ∀ k, (∀ y0 y1 y2 y3, LeO (catchpitref05_Get.l0 k y0 y1 y2 y3) (catchpitref05_Get.l0 (k + 1) y0 y1 y2 y3))
  | 0 => fun _ _ _ _ r h => by simp [catchpitref05_Get.l0] at h
  | k + 1 => by
    have ih0 := catchpitref05_Get.mono_l k
    · intro y0 y1 y2 y3
      unfold catchpitref05_Get.l0
      repeat' first
      | (with_reducible exact ih0 _ _ _ _)
      | (with_reducible exact catchpitref05_Is.mono _ _ _ _)
      | (with_reducible exact LeO.refl _)
      | (with_reducible exact LeO.none _)
      | (with_reducible refine LeO.ite ?_ ?_)
      | (with_reducible refine LeO.bind ?_ (fun _ => ?_))
      | exact ih0 _ _ _ _
      | exact catchpitref05_Is.mono _ _ _ _
      | exact LeO.none _
      | refine LeO.ite ?_ ?_
      | refine LeO.bind ?_ (fun _ => ?_)
theorem catchpitref05_Get.mono : ∀ a0 a1 k, LeO (catchpitref05_Get.f k a0 a1) (catchpitref05_Get.f (k + 1) a0 a1) := by
  intro a0 a1 k
  have ih0 := catchpitref05_Get.mono_l k
  unfold catchpitref05_Get.f
  repeat' first
      | (with_reducible exact ih0 _ _ _ _)
      | (with_reducible exact catchpitref05_Is.mono _ _ _ _)
      | (with_reducible exact LeO.refl _)
      | (with_reducible exact LeO.none _)
      | (with_reducible refine LeO.ite ?_ ?_)
      | (with_reducible refine LeO.bind ?_ (fun _ => ?_))
      | exact ih0 _ _ _ _
      | exact catchpitref05_Is.mono _ _ _ _
      | exact LeO.none _
      | refine LeO.ite ?_ ?_
      | refine LeO.bind ?_ (fun _ => ?_)
def catchpitref25_closes.f (k : Nat) (l0 : List (S37)) : Option (Bool) := (catchpitref05_Get.f k l0 (⟨#[99, 111, 110, 110, 101, 99, 116, 105, 111, 110]⟩ : ByteArray)).bind fun t191 => ((catchpitref07_Has.f k (⟨#[99, 108, 111, 115, 101]⟩ : ByteArray) t191).bind fun t194 => (some t194))
theorem catchpitref25_closes.mono : ∀ a0 k, LeO (catchpitref25_closes.f k a0) (catchpitref25_closes.f (k + 1) a0) := by
  intro a0 k
  unfold catchpitref25_closes.f
  repeat' first
      | (with_reducible exact catchpitref05_Get.mono _ _ _)
      | (with_reducible exact catchpitref07_Has.mono _ _ _)
      | (with_reducible exact LeO.refl _)
      | (with_reducible exact LeO.none _)
      | (with_reducible refine LeO.ite ?_ ?_)
      | (with_reducible refine LeO.bind ?_ (fun _ => ?_))
      | exact catchpitref05_Get.mono _ _ _
      | exact catchpitref07_Has.mono _ _ _
      | exact LeO.none _
      | refine LeO.ite ?_ ?_
      | refine LeO.bind ?_ (fun _ => ?_)
end Go.Proofs.YtofegjgiocljlaaDoor.Pr
end
section
namespace Go.Proofs.YtofegjgiocljlaaDoorH
open Go.RowKit Go.Proofs.YtofegjgiocljlaaDoorW.PrintWords Go.Proofs.YtofegjgiocljlaaDoorW.PrintLast Go.Proofs.YtofegjgiocljlaaDoorW.PrintMore Go.Proofs.YtofegjgiocljlaaDoor.Pr
def bigF : Nat := 600000000000000
theorem ref05_Great_l0 (l : List Fld) (hl : Small1 l) (hn : l.length ≤ 140737488351232) (d : Nat) : ∀ (i n k : Nat), i ≤ l.length → l.length - i = d → d < k → n ≤ bigF →
    catchpitref05_Great.l0 k l (n : Int) (i : Int) = some (decide (2000 < n + sumF (l.drop i))) := by
  induction d with
  | zero =>
    intro i n k h1 h2 h3 h4
    obtain ⟨k, rfl⟩ : ∃ m, k = m + 1 := ⟨k - 1, by omega⟩
    rw [catchpitref05_Great.l0, if_neg (by omega), List.drop_eq_nil_of_le (by omega)]
    congr 1
    rw [decide_eq_decide]
    show _ ↔ 2000 < n + 0
    omega
  | succ d ih =>
    intro i n k h1 h2 h3 h4
    obtain ⟨k, rfl⟩ : ∃ m, k = m + 1 := ⟨k - 1, by omega⟩
    have hi : i < l.length := by omega
    rw [catchpitref05_Great.l0, if_pos (by omega), drop_cons l z37 i hi, sumF_cons, rd_nat]
    have hx := hl _ (mem_getD l z37 i hi)
    generalize l.getD i z37 = x at *
    by_cases h : n ≤ 2000
    · rw [if_pos (by omega), if_pos (by omega)]
      have a1 : i + 1 ≤ l.length := hi
      have a2 : l.length - (i + 1) = d := by omega
      have a3 : d < k := by omega
      have a4 : n + x.f0.size + x.f1.size + 1 ≤ bigF := by unfold bigF at *; omega
      have b1 : n + x.f0.size < 4611686018427387904 := by omega
      have b2 : n + x.f0.size + x.f1.size < 4611686018427387904 := by omega
      have b4 : i < 4611686018427387904 := by omega
      have e1 := wrapN n x.f0.size b1
      have e2 := wrapN (n + x.f0.size) x.f1.size b2
      have e3 := wrapS (n + x.f0.size + x.f1.size) b2
      have e4 := wrapS i b4
      have hh := ih (i + 1) (n + x.f0.size + x.f1.size + 1) k a1 a2 a3 a4
      rw [e1, e2, e3, e4, hh]
      clear e1 e2 e3 e4 hh ih
      congr 1
      rw [decide_eq_decide]
      omega
    · rw [if_neg (by omega)]
      congr 1
      rw [decide_eq_decide]
      omega
theorem ref05_Great (l : List Fld) (hl : Small1 l) (hn : l.length ≤ 140737488351232) : Ev (fun k => catchpitref05_Great.f k l) (decide (2000 < sumF l)) := by
  refine ⟨l.length + 1, fun k hk => ?_⟩
  have := ref05_Great_l0 l hl hn l.length 0 0 k (Nat.zero_le _) rfl (by omega) (Nat.zero_le _)
  rw [Nat.zero_add, List.drop_zero] at this
  exact this
end Go.Proofs.YtofegjgiocljlaaDoorH
end
section
namespace Go.Proofs.YtofegjgiocljlaaDoorH
open Go.RowKit Go.Shelf Go.Proofs.YtofegjgiocljlaaDoorW.PrintWords Go.Proofs.YtofegjgiocljlaaDoorW.PrintLast Go.Proofs.YtofegjgiocljlaaDoorW.PrintMore Go.Proofs.YtofegjgiocljlaaDoor.Pr
theorem judge_aa : reuse_Judge.f 1 2 0 2 0 0 [] 1 2 0 2 0 0 [] = some (true, true) := by decide +kernel
theorem judge_ab : reuse_Judge.f 1 2 0 2 0 0 [] 1 2 0 2 0 1 [] = some (true, false) := by decide +kernel
set_option maxHeartbeats 1600000 in
set_option maxRecDepth 100000 in
theorem wakes25_calls (w : World) (hG : TabOk w) :
    Calls Tryd.prog 13 #[] w fun e w' => e = .returned (.bool true) ∧ Below w.heap.size w w' := by
  have HG := Aside0.mk hG
  clear hG
  go_enter Tryd.func13, Tryd.ntmps13
  go_wp2_with fail
  have BJ := Aside0.mk (show Below w.heap.size w (((w.alloc (.cells #[.int .i64 2, .int .u64 0] 24)).alloc (.cells #[.int .i64 1, .int .i64 2, .int .u64 0, .int .i64 2, .int .u64 0, .int .i64 0, .slice none 0 0] 33)).alloc (.cells #[.int .i64 1, .int .i64 2, .int .u64 0, .int .i64 2, .int .u64 0, .int .i64 1, .slice none 0 0] 33)) from below_alloc (below_alloc (below_alloc (Below.refl _ _) _) _) _)
  have QA := Aside0.mk (show HfAt (((w.alloc (.cells #[.int .i64 2, .int .u64 0] 24)).alloc (.cells #[.int .i64 1, .int .i64 2, .int .u64 0, .int .i64 2, .int .u64 0, .int .i64 0, .slice none 0 0] 33)).alloc (.cells #[.int .i64 1, .int .i64 2, .int .u64 0, .int .i64 2, .int .u64 0, .int .i64 1, .slice none 0 0] 33)) (w.heap.size + 1) ⟨1, 2, 0, 2, 0, 0, none, 0, 0⟩ by
    have h := heap_alloc_new (w.alloc (.cells #[.int .i64 2, .int .u64 0] 24)) (.cells #[.int .i64 1, .int .i64 2, .int .u64 0, .int .i64 2, .int .u64 0, .int .i64 0, .slice none 0 0] 33)
    rw [World.size_alloc] at h
    exact blk_alloc h _)
  have QB := Aside0.mk (show HfAt (((w.alloc (.cells #[.int .i64 2, .int .u64 0] 24)).alloc (.cells #[.int .i64 1, .int .i64 2, .int .u64 0, .int .i64 2, .int .u64 0, .int .i64 0, .slice none 0 0] 33)).alloc (.cells #[.int .i64 1, .int .i64 2, .int .u64 0, .int .i64 2, .int .u64 0, .int .i64 1, .slice none 0 0] 33)) (w.heap.size + 1 + 1) ⟨1, 2, 0, 2, 0, 1, none, 0, 0⟩ by
    have h := heap_alloc_new ((w.alloc (.cells #[.int .i64 2, .int .u64 0] 24)).alloc (.cells #[.int .i64 1, .int .i64 2, .int .u64 0, .int .i64 2, .int .u64 0, .int .i64 0, .slice none 0 0] 33)) (.cells #[.int .i64 1, .int .i64 2, .int .u64 0, .int .i64 2, .int .u64 0, .int .i64 1, .slice none 0 0] 33)
    rw [World.size_alloc, World.size_alloc] at h
    exact h)
  generalize (((w.alloc (.cells #[.int .i64 2, .int .u64 0] 24)).alloc (.cells #[.int .i64 1, .int .i64 2, .int .u64 0, .int .i64 2, .int .u64 0, .int .i64 0, .slice none 0 0] 33)).alloc (.cells #[.int .i64 1, .int .i64 2, .int .u64 0, .int .i64 2, .int .u64 0, .int .i64 1, .slice none 0 0] 33)) = wj at *
  refine (reuse_Judge.calls 1 2 0 2 0 0 none 0 [] 1 2 0 2 0 0 none 0 [] true true wj (Kd.C_nil _ _) (Nat.le_refl _) (Kd.C_nil _ _) (Nat.le_refl _) (HG.out.below BJ.out) judge_aa).mono ?_
  rintro e w1 ⟨rfl, b1⟩
  have B1 := Aside0.mk (BJ.out.trans (b1.mono BJ.out.size))
  obtain ⟨q0, q1, q2, q3, q4, q5, q6⟩ := HfAt.all (show HfAt w1 (w.heap.size + 1) ⟨1, 2, 0, 2, 0, 0, none, 0, 0⟩ from blk_below QA.out b1)
  obtain ⟨p0, p1, p2, p3, p4, p5, p6⟩ := HfAt.all (show HfAt w1 (w.heap.size + 1 + 1) ⟨1, 2, 0, 2, 0, 1, none, 0, 0⟩ from blk_below QB.out b1)
  clear b1
  dsimp only at q0 q1 q2 q3 q4 q5 q6 p0 p1 p2 p3 p4 p5 p6
  go_wp2_with fail
  refine (reuse_Judge.calls 1 2 0 2 0 0 none 0 [] 1 2 0 2 0 1 none 0 [] true false w1 (Kd.C_nil _ _) (Nat.le_refl _) (Kd.C_nil _ _) (Nat.le_refl _) (HG.out.below B1.out) judge_ab).mono ?_
  rintro e w2 ⟨rfl, b2⟩
  have B2 := Aside0.mk (B1.out.trans (b2.mono B1.out.size))
  clear b2
  go_wp2
  go_ret
  exact ⟨rfl, B2.out⟩
end Go.Proofs.YtofegjgiocljlaaDoorH
end
section
namespace Go.Proofs.YtofegjgiocljlaaDoor.Pg
open Go.RowKit Go.Proofs.YtofegjgiocljlaaDoorH Go.Proofs.YtofegjgiocljlaaDoorW.PrintWords Go.Proofs.YtofegjgiocljlaaDoorW.PrintLast Go.Proofs.YtofegjgiocljlaaDoorW.PrintMore Go.Proofs.YtofegjgiocljlaaDoor.Pr
def HaAt (W : World) (b : Nat) (o ik iz ok oz rest : Int) (A : Option Addr) (n c : Nat) : Prop := W.heap[b]? = some (.cells #[.int .i64 o, .int .i64 ik, .int .u64 iz, .int .i64 ok, .int .u64 oz, .int .i64 rest, .slice A n c] 27 (0, 0))
theorem HaAt.all {W : World} {b : Nat} {o ik iz ok oz rest : Int} {A : Option Addr} {n c : Nat} (h : HaAt W b o ik iz ok oz rest A n c) : W.cell? ⟨b, 0, none⟩ = some (.int .i64 o) ∧ W.cell? ⟨b, 1, none⟩ = some (.int .i64 ik) ∧ W.cell? ⟨b, 2, none⟩ = some (.int .u64 iz) ∧ W.cell? ⟨b, 3, none⟩ = some (.int .i64 ok) ∧ W.cell? ⟨b, 4, none⟩ = some (.int .u64 oz) ∧ W.cell? ⟨b, 5, none⟩ = some (.int .i64 rest) ∧ W.cell? ⟨b, 6, none⟩ = some (.slice A n c) :=
  ⟨(blk_cell h 0).trans rfl, (blk_cell h 1).trans rfl, (blk_cell h 2).trans rfl, (blk_cell h 3).trans rfl, (blk_cell h 4).trans rfl, (blk_cell h 5).trans rfl, (blk_cell h 6).trans rfl⟩
theorem and14 {W : World} {b b' : Nat} {o ik iz ok oz rest : Int} {A : Option Addr} {n c : Nat} {o' ik' iz' ok' oz' rest' : Int} {A' : Option Addr} {n' c' : Nat} (h : HaAt W b o ik iz ok oz rest A n c) (k : HaAt W b' o' ik' iz' ok' oz' rest' A' n' c') : W.cell? ⟨b, 0, none⟩ = some (.int .i64 o) ∧ W.cell? ⟨b, 1, none⟩ = some (.int .i64 ik) ∧ W.cell? ⟨b, 2, none⟩ = some (.int .u64 iz) ∧ W.cell? ⟨b, 3, none⟩ = some (.int .i64 ok) ∧ W.cell? ⟨b, 4, none⟩ = some (.int .u64 oz) ∧ W.cell? ⟨b, 5, none⟩ = some (.int .i64 rest) ∧ W.cell? ⟨b, 6, none⟩ = some (.slice A n c) ∧ W.cell? ⟨b', 0, none⟩ = some (.int .i64 o') ∧ W.cell? ⟨b', 1, none⟩ = some (.int .i64 ik') ∧ W.cell? ⟨b', 2, none⟩ = some (.int .u64 iz') ∧ W.cell? ⟨b', 3, none⟩ = some (.int .i64 ok') ∧ W.cell? ⟨b', 4, none⟩ = some (.int .u64 oz') ∧ W.cell? ⟨b', 5, none⟩ = some (.int .i64 rest') ∧ W.cell? ⟨b', 6, none⟩ = some (.slice A' n' c') := by
  obtain ⟨q0, q1, q2, q3, q4, q5, q6⟩ := h.all
  obtain ⟨p0, p1, p2, p3, p4, p5, p6⟩ := k.all
  exact ⟨q0, q1, q2, q3, q4, q5, q6, p0, p1, p2, p3, p4, p5, p6⟩
theorem HaAt.below {W W' : World} {b : Nat} {o ik iz ok oz rest : Int} {A : Option Addr} {n c : Nat} (h : HaAt W b o ik iz ok oz rest A n c) (hb : Below W.heap.size W W') : HaAt W' b o ik iz ok oz rest A n c := blk_below h hb
theorem great_ev (o ik iz ok oz rest : Int) (l : List Fld) (hl : Small1 l) (hn : l.length ≤ 140737488351232) : ∃ k, catchpitref25_Great.f k o ik iz ok oz rest l = some (decide (2000 < sumF l)) := by
  obtain ⟨K, h⟩ := ref05_Great l hl hn
  refine ⟨K, ?_⟩
  unfold catchpitref25_Great.f
  have h := h K (Nat.le_refl _)
  dsimp only at h
  rw [h, Option.bind_some]
def Fits (q : HalfD) : Prop := q.l.length ≤ 140737488351232 ∧ ∀ y ∈ q.l, y.f0.size ≤ 140737488351232 ∧ y.f1.size ≤ 140737488351232
instance (q : HalfD) : Decidable (Fits q) := by unfold Fits; infer_instance
end Go.Proofs.YtofegjgiocljlaaDoor.Pg
end
section
namespace Go.Proofs.YtofegjgiocljlaaDoorH
open Go
theorem take_d {l tl : List Oper} {i : Nat} {o : Oper} (h : l.drop i = o :: tl) : l.toArray[i]? = some o := by
  have h2 : (l.drop i)[0]? = some o := by rw [h]; rfl
  rw [List.getElem?_drop] at h2
  simpa using h2
theorem take_at {P : Program} {ops : Array Oper} {Q : Exit → Act → World → Prop} {md : Region.Mode} {S : World → Prop} {i : Nat} {oi : Oper} {fuel : Nat} {listed : Array Bool} {a : Act} {w : World} (hi : ops[i]? = some oi)
    (h : ops[i]? = some oi → wpAnyH P md ops Q S fuel listed a w) : wpAnyH P md ops Q S fuel listed a w := h hi
end Go.Proofs.YtofegjgiocljlaaDoorH
end
section
namespace Go.Proofs.YtofegjgiocljlaaDoorH
open Go Go.RowKit Go.Proofs.YtofegjgiocljlaaDoorW.PrintWords Go.Proofs.YtofegjgiocljlaaDoorW.PrintLast Go.Proofs.YtofegjgiocljlaaDoorW.PrintMore Go.Proofs.YtofegjgiocljlaaDoor.Pr
def encF (x : Fld) : List Value := [.string x.f0, .string x.f1]
theorem encF_flat : ∀ (l : List Fld) (j : Nat) (u : Value), (l.flatMap encF)[j]? = some u → ∃ p, l[j / 2]? = some p ∧ (encF p)[j % 2]? = some u
  | [], j, u, h => by simp at h
  | x :: l, 0, u, h => ⟨x, rfl, h⟩
  | x :: l, 1, u, h => ⟨x, rfl, h⟩
  | x :: l, j + 2, u, h => by
    have h : (l.flatMap encF)[j]? = some u := h
    obtain ⟨p, h1, h2⟩ := encF_flat l j u h
    refine ⟨p, ?_, ?_⟩
    · rw [show (j + 2) / 2 = j / 2 + 1 by omega]
      exact h1
    · rw [show (j + 2) % 2 = j % 2 by omega]
      exact h2
theorem encF_length (l : List Fld) : (l.flatMap encF).length = l.length * 2 := flatMap_length_two encF 2 (fun _ => rfl) l
theorem cells_of_C {W : World} {ad : Addr} {l : List Fld} (h : Kd.C k37 W (some ad) l.length l) (j : Nat) (u : Value) (hu : (l.flatMap encF)[j]? = some u) : W.cell? (ad.add j) = some u := by
  have hj := (List.getElem?_eq_some_iff.1 hu).1
  rw [encF_length] at hj
  obtain ⟨p, h1, h2⟩ := encF_flat l j u hu
  obtain ⟨ad', e, hc⟩ := h.2.2 (by omega)
  cases e
  obtain ⟨cs, hcl, hK, hcs⟩ := hc (j / 2) p h1
  have hcs2 := hcs (j % 2) u (by rw [k37_open hK]; exact h2)
  rw [show j / 2 * k37.sz + j % 2 = j by show j / 2 * 2 + j % 2 = j; omega] at hcs2
  exact hcs2
def RowF (W : World) (base : Nat) (v : Value) (l : List Fld) : Prop := W.ownsRow base 37 2 v l.length (l.flatMap encF)
theorem RowF.alloc {W : World} {base : Nat} {v : Value} {l : List Fld} (h : RowF W base v l) (o : Obj) : RowF (W.alloc o) base v l := own_alloc h o
theorem RowF.far {W : World} {base : Nat} {v : Value} {l : List Fld} (h : RowF W base v l) {p : Addr} (hp : p.block < base) (u : Value) : RowF (W.setCell p u) base v l :=
  own_move h fun k hk => Below.heap_setCell W p u k (by have := own_base h k hk; omega)
theorem RowF.reads {W : World} {base : Nat} {v : Value} {l : List Fld} (h : RowF W base v l) : ∃ A c, v = .slice A l.length c ∧ l.length ≤ c ∧ Kd.C k37 W A l.length l :=
  Kd.R_reads (row_of_owns k37 encF (fun _ => rfl) (fun ok x => k37_mkM W base ok x) h)
theorem row_empty {W : World} {base b : Nat} (h : W.heap[b]? = some (.cells #[] 37 (0, 0))) (hb : base ≤ b) : RowF W base (.slice (some ⟨b, 0, none⟩) 0 0) [] :=
  ⟨rfl, .inr ⟨b, 0, #[], rfl, hb, h, Nat.le_refl _, Nat.zero_le _, rfl, rfl⟩⟩
theorem new_at {W : World} {b : Nat} (o : Obj) (hb : b = W.heap.size) : (W.alloc o).heap[b]? = some o := by
  subst hb
  exact heap_alloc_new W o
theorem C_one {W : World} {b : Nat} (x : Fld) (h : W.heap[b]? = some (.cells #[.string x.f0, .string x.f1] 37 (0, 0))) : Kd.C k37 W (some ⟨b, 0, none⟩) [x].length [x] := by
  refine ⟨rfl, (by rw [List.length_singleton]; decide), fun _ => ⟨_, rfl, fun j p hp => ⟨encF x, rfl, ?_, ?_⟩⟩⟩
  · match j with
    | 0 =>
      have e : x = p := by simpa using hp
      exact e ▸ k37_mk W x
    | j + 1 => simp at hp
  · match j with
    | 0 =>
      intro i u hu
      rw [Nat.zero_mul, Nat.zero_add]
      exact World.news_of_block h i u hu
    | j + 1 => simp at hp
theorem wp_plus {P : Program} {o : Oper} {a : Act} {K : Act → World → Prop} {Q : Exit → Act → World → Prop} {W W0 : World} (base : Nat) (s x : Operand) (t : TypeId) (z : Value)
    (ho : o.op = .call { callee := .builtin .append, args := #[s, x], argTypes := #[t, t] })
    (ht : P.underlying t = some (.slice 37)) (hinfo : (P.info? 37).map (fun i => (i.zero, i.size, i.bytes)) = some (some z, 2, 32)) (hz : z.cells.size = 2)
    (v : Value) (pre l : List Fld) (A : Option Addr) (c : Nat) (hs : a.eval s = v) (hx : a.eval x = .slice A l.length c) (HO : RowF W base v pre) (HC : Kd.C k37 W A l.length l) (HB : Below base W0 W) (hbase : base ≤ W.heap.size)
    (hl : (pre.length + l.length) * 32 ≤ 140737488355328)
    (h : ∀ v1 w1, RowF w1 base v1 (pre ++ l) → Below base W0 w1 → W.heap.size ≤ w1.heap.size → (∀ b ob, W.heap[b]? = some ob → some b ≠ v.ownBlock → w1.heap[b]? = some ob) → K (a.put o.dst v1) w1) : o.wp P a W K Q := by
  obtain ⟨i0, hi, hzz⟩ := Option.map_eq_some_iff.1 hinfo
  simp only [Prod.mk.injEq] at hzz
  obtain ⟨hz0, hz1, hz2⟩ := hzz
  have hrow : ∀ k, v.ownBlock = some k → base ≤ k := own_base HO
  unfold Oper.wp
  simp only [execOp, ho, resolve, invoke, builtin, Sem.run_bind, Sem.run_pure, Result.andThen_ok, List.map_toArray, List.map_cons, List.map_nil, hs, hx]
  cases A with
  | some ad =>
    obtain ⟨v1, w1, hr, hown, hg, _, _⟩ := run_append_own_at (P := P) W base t o.type 37 i0 z 2 32 ht hi hz0 hz1 hz2 hz (by decide) v pre.length _ HO ad l.length c (l.flatMap encF) (encF_length l) (fun j u hu => cells_of_C HC j u hu)
      (fun u hu => by
        obtain ⟨p, _, hp⟩ := List.mem_flatMap.1 hu
        unfold encF at hp
        simp at hp
        rcases hp with rfl | rfl <;> rfl) (by simp only [maxLen]; omega) hl hbase
    rw [hr]
    refine h v1 w1 ?_ (HB.grown hg hbase hrow) hg.size (fun b ob hb hne => (hg.block b (blk_lt hb) hne).trans hb)
    unfold RowF
    rw [List.length_append, List.flatMap_append]
    exact hown
  | none =>
    have hn : l = [] := by
      rcases l with _ | ⟨y, l⟩
      · rfl
      · obtain ⟨_, e, _⟩ := HC.2.2 (Nat.succ_pos _)
        cases e
    subst hn
    have hv : (Builtin.append_ #[t, t] o.type #[v, .slice none 0 c]).run P W = .ok v W := by
      rcases HO.2 with ⟨rfl, hp⟩ | ⟨g, cap, cur, rfl, _, hg, hnc, _⟩
      · simp [Builtin.append_, run_underlying ht, sizeOf, typeInfo, hi, Builtin.lenOf, Builtin.firstCells]
      · simp [Builtin.append_, run_underlying ht, sizeOf, typeInfo, hi, Builtin.lenOf, Builtin.firstCells, hnc, storeCells]
    rw [show ([] : List Fld).length = 0 from rfl, hv]
    exact h v W (by rw [List.append_nil]; exact HO) HB (Nat.le_refl _) (fun _ _ hb _ => hb)
end Go.Proofs.YtofegjgiocljlaaDoorH
end
section
namespace Go.Proofs.YtofegjgiocljlaaDoorH
open Go.RowKit Go.Proofs.YtofegjgiocljlaaDoorW.PrintWords Go.Proofs.YtofegjgiocljlaaDoorW.PrintLast Go.Proofs.YtofegjgiocljlaaDoorW.PrintMore Go.Proofs.YtofegjgiocljlaaDoor.Pr
theorem snds_map (i : Nat) (l : List ByteArray) : (l.map fun x => (i, x)).map (fun y => y.2) = l := by
  rw [List.map_map]
  exact List.map_id _
theorem itemsF_snds : ∀ (l : List ByteArray) (i : Nat), (itemsF i l).map (fun y => y.2) = l.flatMap itemsP
  | [], _ => rfl
  | v :: l, i => by rw [itemsF, List.map_append, snds_map, itemsF_snds l (i + 1), List.flatMap_cons]
theorem itemsL_flat (l : List ByteArray) : itemsL l = l.flatMap itemsP := itemsF_snds l 0
end Go.Proofs.YtofegjgiocljlaaDoorH
end
section
namespace Go.Proofs.YtofegjgiocljlaaDoor.Pg
open Go Go.RowKit Go.Proofs.YtofegjgiocljlaaDoorH Go.Proofs.YtofegjgiocljlaaDoorW.PrintWords Go.Proofs.YtofegjgiocljlaaDoorW.PrintLast Go.Proofs.YtofegjgiocljlaaDoorW.PrintMore Go.Proofs.YtofegjgiocljlaaDoor.Pr
def cFld : Fld := ⟨⟨#[67, 111, 110, 110, 101, 99, 116, 105, 111, 110]⟩, ⟨#[120, 44, 32, 99, 108, 111, 115, 101]⟩⟩
theorem hasB_append (a b : List ByteArray) (n : ByteArray) : hasB (a ++ b) n = (hasB a n || hasB b n) := List.any_append
theorem getL_append (a b : List Fld) (n : ByteArray) : getL (a ++ b) n = getL a n ++ getL b n := by
  unfold getL
  rw [List.filter_append, List.map_append]
theorem itemsL_append (a b : List ByteArray) : itemsL (a ++ b) = itemsL a ++ itemsL b := by
  rw [itemsL_flat, itemsL_flat, itemsL_flat, List.flatMap_append]
theorem sumF_append (a b : List Fld) : sumF (a ++ b) = sumF a + sumF b := by
  unfold sumF
  rw [List.map_append, List.sum_append]
theorem close_one : closesB [cFld] = true := by decide
theorem close_more (l : List Fld) : closesB (l ++ [cFld]) = true := by
  unfold closesB
  rw [getL_append, itemsL_append, hasB_append]
  have h := close_one
  unfold closesB at h
  rw [h, Bool.or_true]
theorem none_of (st : Nat → Bool) (h : st 5 = true) : clB (onesTo st 6) = false ∧ orB (onesTo st 6) = false := by
  rw [cl_eq, or_eq, h]
  simp
theorem judge_of (o ik iz ok oz rest : Int) (lq : List Fld) (o' ik' iz' ok' oz' rest' : Int) (lp : List Fld) (hq : sumF lq ≤ 3000) (hp : sumF lp ≤ 3000) (h : (closesB lq || closesB lp) = true) :
    reuse_Judge.f o ik iz ok oz rest lq o' ik' iz' ok' oz' rest' lp = some (false, false) := by
  unfold reuse_Judge.f
  rw [if_pos ⟨hq, hp⟩]
  have e := none_of (stB ⟨o, ik, iz, ok, oz, rest, none, 0, 0⟩ ⟨o', ik', iz', ok', oz', rest', none, 0, 0⟩ lq lp) h
  exact congrArg some (Prod.ext e.1 e.2)
theorem judge_closeQ (o ik iz ok oz rest : Int) (lq : List Fld) (o' ik' iz' ok' oz' rest' : Int) (lp : List Fld) (hq : sumF lq ≤ 2000) (hp : sumF lp ≤ 2000) :
    reuse_Judge.f o ik iz ok oz rest (lq ++ [cFld]) o' ik' iz' ok' oz' rest' lp = some (false, false) := by
  have h1 : sumF [cFld] = 19 := rfl
  refine judge_of _ _ _ _ _ _ _ _ _ _ _ _ _ _ (by rw [sumF_append, h1]; omega) (by omega) ?_
  rw [close_more, Bool.true_or]
theorem judge_closeP (o ik iz ok oz rest : Int) (lq : List Fld) (o' ik' iz' ok' oz' rest' : Int) (lp : List Fld) (hq : sumF lq ≤ 2000) (hp : sumF lp ≤ 2000) :
    reuse_Judge.f o ik iz ok oz rest lq o' ik' iz' ok' oz' rest' (lp ++ [cFld]) = some (false, false) := by
  have h1 : sumF [cFld] = 19 := rfl
  refine judge_of _ _ _ _ _ _ _ _ _ _ _ _ _ _ (by omega) (by rw [sumF_append, h1]; omega) ?_
  rw [close_more, Bool.or_true]
theorem anyH_at {P : Program} {ops : Array Oper} {Q : Exit → Act → World → Prop} {md : Region.Mode} {S : World → Prop} {fuel : Nat} {listed : Array Bool} {a : Act} {W : World} (I : World → Prop) (hI : I W)
    (h : ∀ W', I W' → S W' → wpAnyH P md ops Q S fuel listed a W') (hS : S W) : wpAnyH P md ops Q S fuel listed a W := h W hI hS
theorem wp_at {P : Program} {c : Code} {Q : Exit → Act → World → Prop} {a : Act} {W : World} (I : World → Prop) (hI : I W) (h : ∀ W', I W' → c.wp P Q a W') : c.wp P Q a W := h W hI
end Go.Proofs.YtofegjgiocljlaaDoor.Pg
end
section
namespace Go.Proofs.YtofegjgiocljlaaDoor.Pg
open Go.RowKit Go.Proofs.YtofegjgiocljlaaDoorH Go.Proofs.YtofegjgiocljlaaDoorW.PrintWords Go.Proofs.YtofegjgiocljlaaDoorW.PrintLast Go.Proofs.YtofegjgiocljlaaDoorW.PrintMore Go.Proofs.YtofegjgiocljlaaDoor.Pr
def catchpitlaw25_ReuseCloses.f (q p : HalfD) (_which : Bool) : Option Bool := if Fits q ∧ Fits p then some true else none
end Go.Proofs.YtofegjgiocljlaaDoor.Pg
end
section
namespace Go.Proofs.YtofegjgiocljlaaDoor.Pg
open Go.RowKit Go.Proofs.YtofegjgiocljlaaDoorH Go.Proofs.YtofegjgiocljlaaDoorW.PrintWords Go.Proofs.YtofegjgiocljlaaDoorW.PrintLast Go.Proofs.YtofegjgiocljlaaDoorW.PrintMore Go.Proofs.YtofegjgiocljlaaDoor.Pr
set_option maxHeartbeats 16000000 in
set_option maxRecDepth 100000 in
theorem closes_true (q : HalfD) (A0 : Option Addr) (c0 : Nat) (p : HalfD) (A1 : Option Addr) (c1 : Nat) (r : Bool) (w : World) (hr0 : Kd.C k37 w A0 q.l.length q.l) (hc0 : q.l.length ≤ c0) (hr1 : Kd.C k37 w A1 p.l.length p.l) (hc1 : p.l.length ≤ c1) (hG : TabOk w) (h : catchpitlaw25_ReuseCloses.f q p true = some r) :
    Calls Tryd.prog 4 #[.agg #[.int .i64 q.o, .int .i64 q.ik, .int .u64 q.iz, .int .i64 q.ok, .int .u64 q.oz, .int .i64 q.rest, .slice A0 q.l.length c0], .agg #[.int .i64 p.o, .int .i64 p.ik, .int .u64 p.iz, .int .i64 p.ok, .int .u64 p.oz, .int .i64 p.rest, .slice A1 p.l.length c1], .bool true] w fun e w' => e = .returned (.bool r) ∧ Below w.heap.size w w' := by
  unfold catchpitlaw25_ReuseCloses.f at h
  split at h
  case isFalse => cases h
  rename_i hf
  injection h with h
  subst h
  obtain ⟨o, ik, iz, ok, oz, rest, lq⟩ := q
  obtain ⟨o', ik', iz', ok', oz', rest', lp⟩ := p
  have HSQ := Aside0.mk (show Small1 lq from hf.1.2)
  have HSP := Aside0.mk (show Small1 lp from hf.2.2)
  obtain ⟨K1, g1⟩ := great_ev o ik iz ok oz rest lq HSQ.out hf.1.1
  obtain ⟨K2, g2⟩ := great_ev o' ik' iz' ok' oz' rest' lp HSP.out hf.2.1
  have HG1 := Aside0.mk g1
  have HG2 := Aside0.mk g2
  have HR0 := Aside0.mk (show Kd.C k37 w A0 lq.length lq from hr0)
  have HR1 := Aside0.mk (show Kd.C k37 w A1 lp.length lp from hr1)
  have HC0 := Aside0.mk (show lq.length ≤ c0 from hc0)
  have HC1 := Aside0.mk (show lp.length ≤ c1 from hc1)
  have HG := Aside0.mk hG
  clear hf g1 g2 hr0 hr1 hc0 hc1 hG
  have HBL := Aside0.mk (fun W (h : Below w.heap.size w W) => (⟨Kd.C_below HR0.out h, Kd.C_below HR1.out h, HG.out.below h⟩ : Kd.C k37 W A0 lq.length lq ∧ Kd.C k37 W A1 lp.length lp ∧ TabOk W))
  dsimp only
  have B0 := Aside0.mk (show Below w.heap.size w ((w.alloc (.cells #[.int .i64 o, .int .i64 ik, .int .u64 iz, .int .i64 ok, .int .u64 oz, .int .i64 rest, .slice A0 lq.length c0] 27)).alloc (.cells #[.int .i64 o', .int .i64 ik', .int .u64 iz', .int .i64 ok', .int .u64 oz', .int .i64 rest', .slice A1 lp.length c1] 27)) from below_alloc (below_alloc (Below.refl _ _) _) _)
  have Q0 := Aside0.mk (show HaAt ((w.alloc (.cells #[.int .i64 o, .int .i64 ik, .int .u64 iz, .int .i64 ok, .int .u64 oz, .int .i64 rest, .slice A0 lq.length c0] 27)).alloc (.cells #[.int .i64 o', .int .i64 ik', .int .u64 iz', .int .i64 ok', .int .u64 oz', .int .i64 rest', .slice A1 lp.length c1] 27)) w.heap.size o ik iz ok oz rest A0 lq.length c0 from blk_alloc (heap_alloc_new w _) _)
  have P0 := Aside0.mk (show HaAt ((w.alloc (.cells #[.int .i64 o, .int .i64 ik, .int .u64 iz, .int .i64 ok, .int .u64 oz, .int .i64 rest, .slice A0 lq.length c0] 27)).alloc (.cells #[.int .i64 o', .int .i64 ik', .int .u64 iz', .int .i64 ok', .int .u64 oz', .int .i64 rest', .slice A1 lp.length c1] 27)) (w.heap.size + 1) o' ik' iz' ok' oz' rest' A1 lp.length c1 by
    have h := heap_alloc_new (w.alloc (.cells #[.int .i64 o, .int .i64 ik, .int .u64 iz, .int .i64 ok, .int .u64 oz, .int .i64 rest, .slice A0 lq.length c0] 27)) (.cells #[.int .i64 o', .int .i64 ik', .int .u64 iz', .int .i64 ok', .int .u64 oz', .int .i64 rest', .slice A1 lp.length c1] 27)
    rw [World.size_alloc] at h
    exact h)
  go_enter Tryd.func4, Tryd.ntmps4
  go_wp2_with fail
  refine (wakes25_calls _ (HBL.out _ B0.out).2.2).mono ?_
  rintro e w1 ⟨rfl, b1⟩
  have B1 := Aside0.mk (B0.out.trans (b1.mono B0.out.size))
  have Q1 := Aside0.mk (Q0.out.below b1)
  have P1 := Aside0.mk (P0.out.below b1)
  clear b1
  obtain ⟨q0, q1, q2, q3, q4, q5, q6⟩ := Q1.out.all
  obtain ⟨p0, p1, p2, p3, p4, p5, p6⟩ := P1.out.all
  go_wp2_with fail
  refine (catchpitref25_Great.calls K1 o ik iz ok oz rest A0 c0 lq _ w1 (HBL.out _ B1.out).1 HC0.out (HBL.out _ B1.out).2.2 HG1.out).mono ?_
  rintro e w2 ⟨rfl, b2⟩
  have B2 := Aside0.mk (B1.out.trans (b2.mono B1.out.size))
  have Q2 := Aside0.mk (Q1.out.below b2)
  have P2 := Aside0.mk (P1.out.below b2)
  clear b2
  clear q0 q1 q2 q3 q4 q5 q6 p0 p1 p2 p3 p4 p5 p6
  by_cases hg : 2000 < sumF lq
  · rw [decide_eq_true hg]
    clear hg
    go_wp2
    go_ret
    exact ⟨rfl, B2.out⟩
  rw [decide_eq_false hg]
  have HSF := Aside0.mk (show sumF lq ≤ 2000 by omega)
  clear hg
  obtain ⟨q0, q1, q2, q3, q4, q5, q6⟩ := Q2.out.all
  obtain ⟨p0, p1, p2, p3, p4, p5, p6⟩ := P2.out.all
  go_wp2_with fail
  refine (catchpitref25_Great.calls K2 o' ik' iz' ok' oz' rest' A1 c1 lp _ w2 (HBL.out _ B2.out).2.1 HC1.out (HBL.out _ B2.out).2.2 HG2.out).mono ?_
  rintro e w3 ⟨rfl, b3⟩
  have B3 := Aside0.mk (B2.out.trans (b3.mono B2.out.size))
  have Q3 := Aside0.mk (Q2.out.below b3)
  have P3 := Aside0.mk (P2.out.below b3)
  clear b3
  clear q0 q1 q2 q3 q4 q5 q6 p0 p1 p2 p3 p4 p5 p6
  by_cases hg : 2000 < sumF lp
  · rw [decide_eq_true hg]
    clear hg
    go_wp2
    go_ret
    exact ⟨rfl, B3.out⟩
  rw [decide_eq_false hg]
  have HSF' := Aside0.mk (show sumF lp ≤ 2000 by omega)
  clear hg
  go_upto_region 7 with (fail)
  have HBC := Aside0.mk (blk_lt P3.out)
  obtain ⟨bc, hbc⟩ : ∃ n, w3.heap.size = n := ⟨_, rfl⟩
  rw [hbc] at HBC
  refine wp_at (fun W' => W'.heap[bc]? = some (.cells #[.string ⟨#[67, 111, 110, 110, 101, 99, 116, 105, 111, 110]⟩, .string ⟨#[120, 44, 32, 99, 108, 111, 115, 101]⟩] 37 (0, 0)) ∧ HaAt W' w.heap.size o ik iz ok oz rest A0 lq.length c0 ∧ HaAt W' (w.heap.size + 1) o' ik' iz' ok' oz' rest' A1 lp.length c1 ∧ Below w.heap.size w W') ?_ ?_
  · subst hbc
    have hl0 : w.heap.size < w3.heap.size := blk_lt Q3.out
    have hl1 : w.heap.size + 1 < w3.heap.size := blk_lt P3.out
    refine ⟨?_, ?_, ?_, ?_⟩
    · first
      | exact heap_alloc_new w3 _
      | exact blk_put (blk_put (heap_alloc_new w3 _) 0 _ rfl) 1 _ rfl
    · repeat (first | exact Q3.out | refine blk_alloc ?_ _ | (refine blk_far ?_ (by dsimp only; omega) _))
    · repeat (first | exact P3.out | refine blk_alloc ?_ _ | (refine blk_far ?_ (by dsimp only; omega) _))
    · repeat (first | exact B3.out | (refine Below.setCell ?_ (by dsimp only; omega) _) | apply below_alloc)
  rintro wa ⟨c7, x7, y7, b7⟩
  subst hbc
  have C7 := Aside0.mk c7
  have Q7 := Aside0.mk x7
  have P7 := Aside0.mk y7
  have B7 := Aside0.mk b7
  have CQ7 := Aside0.mk (HBL.out _ b7).1
  have CP7 := Aside0.mk (HBL.out _ b7).2.1
  clear c7 x7 y7 b7
  generalize w3.heap.size = bc at *
  go_cut [7] (fun u7 wc => ∃ v6 : Value, u7 = .pointer (some ⟨bc, 0, none⟩) ∧ Aside0 (wc.heap[w.heap.size]? = some (.cells #[.int .i64 o, .int .i64 ik, .int .u64 iz, .int .i64 ok, .int .u64 oz, .int .i64 rest, v6] 27 (0, 0))) ∧ Aside0 (HaAt wc (w.heap.size + 1) o' ik' iz' ok' oz' rest' A1 lp.length c1) ∧ Aside0 (RowF wc wa.heap.size v6 (lq ++ [cFld])) ∧ Aside0 (Below w.heap.size w wc))
  case first =>
    refine wp_region_held_drew (S := (fun W => W.cell? ⟨bc, 0, none⟩ = some (.string ⟨#[67, 111, 110, 110, 101, 99, 116, 105, 111, 110]⟩) ∧ W.cell? ⟨bc, 1, none⟩ = some (.string ⟨#[120, 44, 32, 99, 108, 111, 115, 101]⟩))) (by kernel_rfl) ?_ (fun hHeld => ?_)
    · exact ⟨(blk_cell C7.out 0).trans rfl, (blk_cell C7.out 1).trans rfl⟩
    refine take_at (i := 1) (take_d rfl) ?_
    intro h_i
    refine wpAnyH_take (v := ?_) h_i (by kernel_rfl) (by kernel_rfl) (by kernel_rfl) (fun _ _ _ h => h) (Or.inl ⟨by rfl, ?_⟩) (by assumption) ?_
    case refine_2 => (intro w hSw; (try dsimp only at hSw); go_simp; (try with_reducible rfl))
    clear h_i
    try simp only [Act.put, List.setIfInBounds_toArray, List.set_cons_zero, List.set_cons_succ]
    refine take_at (i := 4) (take_d rfl) ?_
    intro h_i
    refine wpAnyH_take (v := ?_) h_i (by kernel_rfl) (by kernel_rfl) (by kernel_rfl) (fun _ _ _ h => h) (Or.inl ⟨by rfl, ?_⟩) (by assumption) ?_
    case refine_2 => (intro w hSw; (try dsimp only at hSw); go_simp; (try with_reducible rfl))
    clear h_i
    try simp only [Act.put, List.setIfInBounds_toArray, List.set_cons_zero, List.set_cons_succ]
    refine anyH_at (fun W' => Below wa.heap.size wa W') (below_drew1 (Below.refl _ _)) ?_ hHeld
    clear hHeld
    rintro W0 z0 hHeld
    have HB0 := Aside0.mk z0
    clear z0
    refine wpAnyH_ready (rs := [0, 2, 5]) (by kernel_rfl) (by simp) ?_
    refine AllReadyH.cons (take_d rfl) (fun zK hK => ?_) ?_
    · go_simp
      refine hK.out _ _ ?_ (fun hHeld2 => ?_)
      · exact ⟨(blk_cell (blk_below C7.out (below_alloc HB0.out _)) 0).trans rfl, (blk_cell (blk_below C7.out (below_alloc HB0.out _)) 1).trans rfl⟩
      clear hK zK hHeld
      have hHeld := hHeld2
      clear hHeld2
      try simp only [Act.put, List.setIfInBounds_toArray, List.set_cons_zero, List.set_cons_succ]
      refine anyH_at (fun W' => W'.heap[W0.heap.size]? = some (.cells #[] 37 (0, 0)) ∧ Below wa.heap.size wa W') ⟨new_at _ rfl, HB0.out.alloc HB0.out.size _⟩ ?_ hHeld
      clear hHeld
      rintro W1 ⟨z0, z1⟩ hHeld
      have HBE := Aside0.mk (show wa.heap.size ≤ W0.heap.size from HB0.out.size)
      have HE := Aside0.mk z0
      clear z0
      have HB1 := Aside0.mk z1
      clear z1
      refine wpAnyH_ready (rs := [2, 5]) (by kernel_rfl) (by simp) ?_
      refine AllReadyH.cons (take_d rfl) (fun zK hK => ?_) ?_
      · have q6 := (blk_cell (blk_below Q7.out HB1.out) 6).trans rfl
        go_simp
        clear q6
        refine hK.out _ _ ?_ (fun hHeld2 => ?_)
        · exact hHeld
        clear hK zK hHeld
        have hHeld := hHeld2
        clear hHeld2
        try simp only [Act.put, List.setIfInBounds_toArray, List.set_cons_zero, List.set_cons_succ]
        refine wpAnyH_ready (rs := [3, 5]) (by kernel_rfl) (by simp) ?_
        refine AllReadyH.cons (take_d rfl) (fun zK hK => ?_) ?_
        · rw [if_pos (by rfl)]
          refine wp_plus (W0 := wa) wa.heap.size _ _ 25 (.agg #[.string ⟨#[]⟩, .string ⟨#[]⟩]) rfl Tryd.underlying25 (by kernel_rfl) (by rfl) _ [] lq A0 c0 rfl rfl (row_empty HE.out HBE.out) (Kd.C_below CQ7.out HB1.out) HB1.out HB1.out.size (by have := HSF.out; have := sumF_length lq; rw [List.length_nil]; omega) ?_
          intro v1 W2 hv hb hz hk
          refine hK.out _ _ ?_ (fun hHeld2 => ?_)
          · exact ⟨(blk_cell (blk_below C7.out hb) 0).trans rfl, (blk_cell (blk_below C7.out hb) 1).trans rfl⟩
          clear hK zK hHeld
          have hHeld := hHeld2
          clear hHeld2
          try simp only [Act.put, List.setIfInBounds_toArray, List.set_cons_zero, List.set_cons_succ]
          have HV := Aside0.mk (show RowF W2 wa.heap.size v1 lq from hv)
          have HB2 := Aside0.mk hb
          clear hv hb hz hk
          refine wpAnyH_ready (rs := [5]) (by kernel_rfl) (by simp) ?_
          refine AllReadyH.cons (take_d rfl) (fun zK hK => ?_) AllReadyH.nil
          go_simp
          refine hK.out _ _ ?_ (fun hHeld2 => ?_)
          · exact ⟨(blk_cell (blk_below C7.out (below_alloc HB2.out _)) 0).trans rfl, (blk_cell (blk_below C7.out (below_alloc HB2.out _)) 1).trans rfl⟩
          clear hK zK hHeld
          have hHeld := hHeld2
          clear hHeld2
          try simp only [Act.put, List.setIfInBounds_toArray, List.set_cons_zero, List.set_cons_succ]
          refine anyH_at (fun W' => W'.heap[W2.heap.size]? = some (.cells #[.string ⟨#[67, 111, 110, 110, 101, 99, 116, 105, 111, 110]⟩, .string ⟨#[120, 44, 32, 99, 108, 111, 115, 101]⟩] 37 (0, 0)) ∧ Below wa.heap.size wa W' ∧ RowF W' wa.heap.size v1 lq) ⟨new_at _ rfl, HB2.out.alloc HB2.out.size _, HV.out.alloc _⟩ ?_ hHeld
          clear hHeld
          rintro W3 ⟨z0, z1, z2⟩ hHeld
          have H5 := Aside0.mk z0
          clear z0
          have HB3 := Aside0.mk z1
          clear z1
          have HV := Aside0.mk z2
          clear z2
          refine wpAnyH_ready (rs := [6]) (by kernel_rfl) (by simp) ?_
          refine AllReadyH.cons (take_d rfl) (fun zK hK => ?_) AllReadyH.nil
          rw [if_pos (by rfl)]
          refine wp_plus (W0 := wa) wa.heap.size _ _ 25 (.agg #[.string ⟨#[]⟩, .string ⟨#[]⟩]) rfl Tryd.underlying25 (by kernel_rfl) (by rfl) v1 lq [cFld] (some ⟨W2.heap.size, 0, none⟩) 1 rfl rfl HV.out (C_one cFld H5.out) HB3.out HB3.out.size (by have := HSF.out; have := sumF_length lq; rw [List.length_singleton]; omega) ?_
          intro v6 W4 hv hb hz hk
          refine hK.out _ _ ?_ (fun hHeld2 => ?_)
          · exact ⟨(blk_cell (blk_below C7.out hb) 0).trans rfl, (blk_cell (blk_below C7.out hb) 1).trans rfl⟩
          clear hK zK hHeld
          have hHeld := hHeld2
          clear hHeld2
          try simp only [Act.put, List.setIfInBounds_toArray, List.set_cons_zero, List.set_cons_succ]
          have HV6 := Aside0.mk hv
          have HB4 := Aside0.mk hb
          clear hv hb hz hk
          refine take_at (i := 7) (take_d rfl) ?_
          intro h_i
          refine wpAnyH_take (v := ?_) h_i (by kernel_rfl) (by kernel_rfl) (by kernel_rfl) (fun _ _ _ h => h) (Or.inl ⟨by rfl, ?_⟩) (by assumption) ?_
          case refine_2 => (intro w hSw; (try dsimp only at hSw); go_simp; (try with_reducible rfl))
          clear h_i
          try simp only [Act.put, List.setIfInBounds_toArray, List.set_cons_zero, List.set_cons_succ]
          refine wpAnyH_ready (rs := [8]) (by kernel_rfl) (by simp) ?_
          refine AllReadyH.cons (take_d rfl) (fun zK hK => ?_) AllReadyH.nil
          obtain ⟨A6, c6, e6, hc6, hC6⟩ := HV6.out.reads
          subst e6
          clear hc6 hC6
          rw [show (lq ++ [cFld]).length = lq.length + 1 from by simp] at HV6
          have q6 := (blk_cell (blk_below Q7.out HB4.out) 6).trans rfl
          have f6 := blk_frozen (blk_below Q7.out HB4.out) 6
          go_simp
          clear q6 f6
          refine hK.out _ _ ?_ (fun hHeld2 => ?_)
          · exact ⟨(blk_cell (blk_far (blk_below C7.out HB4.out) (by dsimp only; have := HBC.out; omega) _) 0).trans rfl, (blk_cell (blk_far (blk_below C7.out HB4.out) (by dsimp only; have := HBC.out; omega) _) 1).trans rfl⟩
          clear hK zK hHeld
          have hHeld := hHeld2
          clear hHeld2
          try simp only [Act.put, List.setIfInBounds_toArray, List.set_cons_zero, List.set_cons_succ]
          refine wpAnyH_done (by kernel_rfl) ?_ _
          go_wp2
          go_meet
          case rel =>
            refine ⟨.slice A6 (lq.length + 1) c6, rfl, ⟨?_⟩, ⟨?_⟩, ⟨?_⟩, ⟨?_⟩⟩
            · exact blk_put (blk_below Q7.out HB4.out) 6 _ rfl
            · exact blk_far (blk_below P7.out HB4.out) (by dsimp only; omega) _
            · exact HV6.out.far (by dsimp only; have := blk_lt Q7.out; omega) _
            · exact Below.setCell (below_step B7.out HB4.out) (by dsimp only; omega) _
        refine AllReadyH.cons (take_d rfl) (fun zK hK => ?_) AllReadyH.nil
        go_simp
        refine hK.out _ _ ?_ (fun hHeld2 => ?_)
        · exact ⟨(blk_cell (blk_below C7.out (below_alloc HB1.out _)) 0).trans rfl, (blk_cell (blk_below C7.out (below_alloc HB1.out _)) 1).trans rfl⟩
        clear hK zK hHeld
        have hHeld := hHeld2
        clear hHeld2
        try simp only [Act.put, List.setIfInBounds_toArray, List.set_cons_zero, List.set_cons_succ]
        refine anyH_at (fun W' => W'.heap[W1.heap.size]? = some (.cells #[.string ⟨#[67, 111, 110, 110, 101, 99, 116, 105, 111, 110]⟩, .string ⟨#[120, 44, 32, 99, 108, 111, 115, 101]⟩] 37 (0, 0)) ∧ Below wa.heap.size wa W' ∧ W'.heap[W0.heap.size]? = some (.cells #[] 37 (0, 0))) ⟨new_at _ rfl, HB1.out.alloc HB1.out.size _, blk_alloc HE.out _⟩ ?_ hHeld
        clear hHeld
        rintro W2 ⟨z0, z1, z2⟩ hHeld
        have HNE := Aside0.mk (show W1.heap.size ≠ W0.heap.size by have := blk_lt HE.out; omega)
        have H5 := Aside0.mk z0
        clear z0
        have HB2 := Aside0.mk z1
        clear z1
        have HE := Aside0.mk z2
        clear z2
        refine wpAnyH_ready (rs := [3]) (by kernel_rfl) (by simp) ?_
        refine AllReadyH.cons (take_d rfl) (fun zK hK => ?_) AllReadyH.nil
        rw [if_pos (by rfl)]
        refine wp_plus (W0 := wa) wa.heap.size _ _ 25 (.agg #[.string ⟨#[]⟩, .string ⟨#[]⟩]) rfl Tryd.underlying25 (by kernel_rfl) (by rfl) _ [] lq A0 c0 rfl rfl (row_empty HE.out HBE.out) (Kd.C_below CQ7.out HB2.out) HB2.out HB2.out.size (by have := HSF.out; have := sumF_length lq; rw [List.length_nil]; omega) ?_
        intro v1 W3 hv hb hz hk
        refine hK.out _ _ ?_ (fun hHeld2 => ?_)
        · exact ⟨(blk_cell (blk_below C7.out hb) 0).trans rfl, (blk_cell (blk_below C7.out hb) 1).trans rfl⟩
        clear hK zK hHeld
        have hHeld := hHeld2
        clear hHeld2
        try simp only [Act.put, List.setIfInBounds_toArray, List.set_cons_zero, List.set_cons_succ]
        have HV := Aside0.mk (show RowF W3 wa.heap.size v1 lq from hv)
        have HB3 := Aside0.mk hb
        have H5 := Aside0.mk (hk _ _ H5.out (fun e => HNE.out (Option.some.inj e)))
        clear hv hb hz hk
        refine wpAnyH_ready (rs := [6]) (by kernel_rfl) (by simp) ?_
        refine AllReadyH.cons (take_d rfl) (fun zK hK => ?_) AllReadyH.nil
        rw [if_pos (by rfl)]
        refine wp_plus (W0 := wa) wa.heap.size _ _ 25 (.agg #[.string ⟨#[]⟩, .string ⟨#[]⟩]) rfl Tryd.underlying25 (by kernel_rfl) (by rfl) v1 lq [cFld] (some ⟨W1.heap.size, 0, none⟩) 1 rfl rfl HV.out (C_one cFld H5.out) HB3.out HB3.out.size (by have := HSF.out; have := sumF_length lq; rw [List.length_singleton]; omega) ?_
        intro v6 W4 hv hb hz hk
        refine hK.out _ _ ?_ (fun hHeld2 => ?_)
        · exact ⟨(blk_cell (blk_below C7.out hb) 0).trans rfl, (blk_cell (blk_below C7.out hb) 1).trans rfl⟩
        clear hK zK hHeld
        have hHeld := hHeld2
        clear hHeld2
        try simp only [Act.put, List.setIfInBounds_toArray, List.set_cons_zero, List.set_cons_succ]
        have HV6 := Aside0.mk hv
        have HB4 := Aside0.mk hb
        clear hv hb hz hk
        refine take_at (i := 7) (take_d rfl) ?_
        intro h_i
        refine wpAnyH_take (v := ?_) h_i (by kernel_rfl) (by kernel_rfl) (by kernel_rfl) (fun _ _ _ h => h) (Or.inl ⟨by rfl, ?_⟩) (by assumption) ?_
        case refine_2 => (intro w hSw; (try dsimp only at hSw); go_simp; (try with_reducible rfl))
        clear h_i
        try simp only [Act.put, List.setIfInBounds_toArray, List.set_cons_zero, List.set_cons_succ]
        refine wpAnyH_ready (rs := [8]) (by kernel_rfl) (by simp) ?_
        refine AllReadyH.cons (take_d rfl) (fun zK hK => ?_) AllReadyH.nil
        obtain ⟨A6, c6, e6, hc6, hC6⟩ := HV6.out.reads
        subst e6
        clear hc6 hC6
        rw [show (lq ++ [cFld]).length = lq.length + 1 from by simp] at HV6
        have q6 := (blk_cell (blk_below Q7.out HB4.out) 6).trans rfl
        have f6 := blk_frozen (blk_below Q7.out HB4.out) 6
        go_simp
        clear q6 f6
        refine hK.out _ _ ?_ (fun hHeld2 => ?_)
        · exact ⟨(blk_cell (blk_far (blk_below C7.out HB4.out) (by dsimp only; have := HBC.out; omega) _) 0).trans rfl, (blk_cell (blk_far (blk_below C7.out HB4.out) (by dsimp only; have := HBC.out; omega) _) 1).trans rfl⟩
        clear hK zK hHeld
        have hHeld := hHeld2
        clear hHeld2
        try simp only [Act.put, List.setIfInBounds_toArray, List.set_cons_zero, List.set_cons_succ]
        refine wpAnyH_done (by kernel_rfl) ?_ _
        go_wp2
        go_meet
        case rel =>
          refine ⟨.slice A6 (lq.length + 1) c6, rfl, ⟨?_⟩, ⟨?_⟩, ⟨?_⟩, ⟨?_⟩⟩
          · exact blk_put (blk_below Q7.out HB4.out) 6 _ rfl
          · exact blk_far (blk_below P7.out HB4.out) (by dsimp only; omega) _
          · exact HV6.out.far (by dsimp only; have := blk_lt Q7.out; omega) _
          · exact Below.setCell (below_step B7.out HB4.out) (by dsimp only; omega) _
      refine AllReadyH.cons (take_d rfl) (fun zK hK => ?_) AllReadyH.nil
      go_simp
      refine hK.out _ _ ?_ (fun hHeld2 => ?_)
      · exact ⟨(blk_cell (blk_below C7.out (below_alloc HB1.out _)) 0).trans rfl, (blk_cell (blk_below C7.out (below_alloc HB1.out _)) 1).trans rfl⟩
      clear hK zK hHeld
      have hHeld := hHeld2
      clear hHeld2
      try simp only [Act.put, List.setIfInBounds_toArray, List.set_cons_zero, List.set_cons_succ]
      refine anyH_at (fun W' => W'.heap[W1.heap.size]? = some (.cells #[.string ⟨#[67, 111, 110, 110, 101, 99, 116, 105, 111, 110]⟩, .string ⟨#[120, 44, 32, 99, 108, 111, 115, 101]⟩] 37 (0, 0)) ∧ Below wa.heap.size wa W' ∧ W'.heap[W0.heap.size]? = some (.cells #[] 37 (0, 0))) ⟨new_at _ rfl, HB1.out.alloc HB1.out.size _, blk_alloc HE.out _⟩ ?_ hHeld
      clear hHeld
      rintro W2 ⟨z0, z1, z2⟩ hHeld
      have HNE := Aside0.mk (show W1.heap.size ≠ W0.heap.size by have := blk_lt HE.out; omega)
      have H5 := Aside0.mk z0
      clear z0
      have HB2 := Aside0.mk z1
      clear z1
      have HE := Aside0.mk z2
      clear z2
      refine wpAnyH_ready (rs := [2]) (by kernel_rfl) (by simp) ?_
      refine AllReadyH.cons (take_d rfl) (fun zK hK => ?_) AllReadyH.nil
      have q6 := (blk_cell (blk_below Q7.out HB2.out) 6).trans rfl
      go_simp
      clear q6
      refine hK.out _ _ ?_ (fun hHeld2 => ?_)
      · exact hHeld
      clear hK zK hHeld
      have hHeld := hHeld2
      clear hHeld2
      try simp only [Act.put, List.setIfInBounds_toArray, List.set_cons_zero, List.set_cons_succ]
      refine wpAnyH_ready (rs := [3]) (by kernel_rfl) (by simp) ?_
      refine AllReadyH.cons (take_d rfl) (fun zK hK => ?_) AllReadyH.nil
      rw [if_pos (by rfl)]
      refine wp_plus (W0 := wa) wa.heap.size _ _ 25 (.agg #[.string ⟨#[]⟩, .string ⟨#[]⟩]) rfl Tryd.underlying25 (by kernel_rfl) (by rfl) _ [] lq A0 c0 rfl rfl (row_empty HE.out HBE.out) (Kd.C_below CQ7.out HB2.out) HB2.out HB2.out.size (by have := HSF.out; have := sumF_length lq; rw [List.length_nil]; omega) ?_
      intro v1 W3 hv hb hz hk
      refine hK.out _ _ ?_ (fun hHeld2 => ?_)
      · exact ⟨(blk_cell (blk_below C7.out hb) 0).trans rfl, (blk_cell (blk_below C7.out hb) 1).trans rfl⟩
      clear hK zK hHeld
      have hHeld := hHeld2
      clear hHeld2
      try simp only [Act.put, List.setIfInBounds_toArray, List.set_cons_zero, List.set_cons_succ]
      have HV := Aside0.mk (show RowF W3 wa.heap.size v1 lq from hv)
      have HB3 := Aside0.mk hb
      have H5 := Aside0.mk (hk _ _ H5.out (fun e => HNE.out (Option.some.inj e)))
      clear hv hb hz hk
      refine wpAnyH_ready (rs := [6]) (by kernel_rfl) (by simp) ?_
      refine AllReadyH.cons (take_d rfl) (fun zK hK => ?_) AllReadyH.nil
      rw [if_pos (by rfl)]
      refine wp_plus (W0 := wa) wa.heap.size _ _ 25 (.agg #[.string ⟨#[]⟩, .string ⟨#[]⟩]) rfl Tryd.underlying25 (by kernel_rfl) (by rfl) v1 lq [cFld] (some ⟨W1.heap.size, 0, none⟩) 1 rfl rfl HV.out (C_one cFld H5.out) HB3.out HB3.out.size (by have := HSF.out; have := sumF_length lq; rw [List.length_singleton]; omega) ?_
      intro v6 W4 hv hb hz hk
      refine hK.out _ _ ?_ (fun hHeld2 => ?_)
      · exact ⟨(blk_cell (blk_below C7.out hb) 0).trans rfl, (blk_cell (blk_below C7.out hb) 1).trans rfl⟩
      clear hK zK hHeld
      have hHeld := hHeld2
      clear hHeld2
      try simp only [Act.put, List.setIfInBounds_toArray, List.set_cons_zero, List.set_cons_succ]
      have HV6 := Aside0.mk hv
      have HB4 := Aside0.mk hb
      clear hv hb hz hk
      refine take_at (i := 7) (take_d rfl) ?_
      intro h_i
      refine wpAnyH_take (v := ?_) h_i (by kernel_rfl) (by kernel_rfl) (by kernel_rfl) (fun _ _ _ h => h) (Or.inl ⟨by rfl, ?_⟩) (by assumption) ?_
      case refine_2 => (intro w hSw; (try dsimp only at hSw); go_simp; (try with_reducible rfl))
      clear h_i
      try simp only [Act.put, List.setIfInBounds_toArray, List.set_cons_zero, List.set_cons_succ]
      refine wpAnyH_ready (rs := [8]) (by kernel_rfl) (by simp) ?_
      refine AllReadyH.cons (take_d rfl) (fun zK hK => ?_) AllReadyH.nil
      obtain ⟨A6, c6, e6, hc6, hC6⟩ := HV6.out.reads
      subst e6
      clear hc6 hC6
      rw [show (lq ++ [cFld]).length = lq.length + 1 from by simp] at HV6
      have q6 := (blk_cell (blk_below Q7.out HB4.out) 6).trans rfl
      have f6 := blk_frozen (blk_below Q7.out HB4.out) 6
      go_simp
      clear q6 f6
      refine hK.out _ _ ?_ (fun hHeld2 => ?_)
      · exact ⟨(blk_cell (blk_far (blk_below C7.out HB4.out) (by dsimp only; have := HBC.out; omega) _) 0).trans rfl, (blk_cell (blk_far (blk_below C7.out HB4.out) (by dsimp only; have := HBC.out; omega) _) 1).trans rfl⟩
      clear hK zK hHeld
      have hHeld := hHeld2
      clear hHeld2
      try simp only [Act.put, List.setIfInBounds_toArray, List.set_cons_zero, List.set_cons_succ]
      refine wpAnyH_done (by kernel_rfl) ?_ _
      go_wp2
      go_meet
      case rel =>
        refine ⟨.slice A6 (lq.length + 1) c6, rfl, ⟨?_⟩, ⟨?_⟩, ⟨?_⟩, ⟨?_⟩⟩
        · exact blk_put (blk_below Q7.out HB4.out) 6 _ rfl
        · exact blk_far (blk_below P7.out HB4.out) (by dsimp only; omega) _
        · exact HV6.out.far (by dsimp only; have := blk_lt Q7.out; omega) _
        · exact Below.setCell (below_step B7.out HB4.out) (by dsimp only; omega) _
    refine AllReadyH.cons (take_d rfl) (fun zK hK => ?_) ?_
    · have q6 := (blk_cell (blk_below Q7.out HB0.out) 6).trans rfl
      go_simp
      clear q6
      refine hK.out _ _ ?_ (fun hHeld2 => ?_)
      · exact hHeld
      clear hK zK hHeld
      have hHeld := hHeld2
      clear hHeld2
      try simp only [Act.put, List.setIfInBounds_toArray, List.set_cons_zero, List.set_cons_succ]
      refine wpAnyH_ready (rs := [0, 5]) (by kernel_rfl) (by simp) ?_
      refine AllReadyH.cons (take_d rfl) (fun zK hK => ?_) ?_
      · go_simp
        refine hK.out _ _ ?_ (fun hHeld2 => ?_)
        · exact ⟨(blk_cell (blk_below C7.out (below_alloc HB0.out _)) 0).trans rfl, (blk_cell (blk_below C7.out (below_alloc HB0.out _)) 1).trans rfl⟩
        clear hK zK hHeld
        have hHeld := hHeld2
        clear hHeld2
        try simp only [Act.put, List.setIfInBounds_toArray, List.set_cons_zero, List.set_cons_succ]
        refine anyH_at (fun W' => W'.heap[W0.heap.size]? = some (.cells #[] 37 (0, 0)) ∧ Below wa.heap.size wa W') ⟨new_at _ rfl, HB0.out.alloc HB0.out.size _⟩ ?_ hHeld
        clear hHeld
        rintro W1 ⟨z0, z1⟩ hHeld
        have HBE := Aside0.mk (show wa.heap.size ≤ W0.heap.size from HB0.out.size)
        have HE := Aside0.mk z0
        clear z0
        have HB1 := Aside0.mk z1
        clear z1
        refine wpAnyH_ready (rs := [3, 5]) (by kernel_rfl) (by simp) ?_
        refine AllReadyH.cons (take_d rfl) (fun zK hK => ?_) ?_
        · rw [if_pos (by rfl)]
          refine wp_plus (W0 := wa) wa.heap.size _ _ 25 (.agg #[.string ⟨#[]⟩, .string ⟨#[]⟩]) rfl Tryd.underlying25 (by kernel_rfl) (by rfl) _ [] lq A0 c0 rfl rfl (row_empty HE.out HBE.out) (Kd.C_below CQ7.out HB1.out) HB1.out HB1.out.size (by have := HSF.out; have := sumF_length lq; rw [List.length_nil]; omega) ?_
          intro v1 W2 hv hb hz hk
          refine hK.out _ _ ?_ (fun hHeld2 => ?_)
          · exact ⟨(blk_cell (blk_below C7.out hb) 0).trans rfl, (blk_cell (blk_below C7.out hb) 1).trans rfl⟩
          clear hK zK hHeld
          have hHeld := hHeld2
          clear hHeld2
          try simp only [Act.put, List.setIfInBounds_toArray, List.set_cons_zero, List.set_cons_succ]
          have HV := Aside0.mk (show RowF W2 wa.heap.size v1 lq from hv)
          have HB2 := Aside0.mk hb
          clear hv hb hz hk
          refine wpAnyH_ready (rs := [5]) (by kernel_rfl) (by simp) ?_
          refine AllReadyH.cons (take_d rfl) (fun zK hK => ?_) AllReadyH.nil
          go_simp
          refine hK.out _ _ ?_ (fun hHeld2 => ?_)
          · exact ⟨(blk_cell (blk_below C7.out (below_alloc HB2.out _)) 0).trans rfl, (blk_cell (blk_below C7.out (below_alloc HB2.out _)) 1).trans rfl⟩
          clear hK zK hHeld
          have hHeld := hHeld2
          clear hHeld2
          try simp only [Act.put, List.setIfInBounds_toArray, List.set_cons_zero, List.set_cons_succ]
          refine anyH_at (fun W' => W'.heap[W2.heap.size]? = some (.cells #[.string ⟨#[67, 111, 110, 110, 101, 99, 116, 105, 111, 110]⟩, .string ⟨#[120, 44, 32, 99, 108, 111, 115, 101]⟩] 37 (0, 0)) ∧ Below wa.heap.size wa W' ∧ RowF W' wa.heap.size v1 lq) ⟨new_at _ rfl, HB2.out.alloc HB2.out.size _, HV.out.alloc _⟩ ?_ hHeld
          clear hHeld
          rintro W3 ⟨z0, z1, z2⟩ hHeld
          have H5 := Aside0.mk z0
          clear z0
          have HB3 := Aside0.mk z1
          clear z1
          have HV := Aside0.mk z2
          clear z2
          refine wpAnyH_ready (rs := [6]) (by kernel_rfl) (by simp) ?_
          refine AllReadyH.cons (take_d rfl) (fun zK hK => ?_) AllReadyH.nil
          rw [if_pos (by rfl)]
          refine wp_plus (W0 := wa) wa.heap.size _ _ 25 (.agg #[.string ⟨#[]⟩, .string ⟨#[]⟩]) rfl Tryd.underlying25 (by kernel_rfl) (by rfl) v1 lq [cFld] (some ⟨W2.heap.size, 0, none⟩) 1 rfl rfl HV.out (C_one cFld H5.out) HB3.out HB3.out.size (by have := HSF.out; have := sumF_length lq; rw [List.length_singleton]; omega) ?_
          intro v6 W4 hv hb hz hk
          refine hK.out _ _ ?_ (fun hHeld2 => ?_)
          · exact ⟨(blk_cell (blk_below C7.out hb) 0).trans rfl, (blk_cell (blk_below C7.out hb) 1).trans rfl⟩
          clear hK zK hHeld
          have hHeld := hHeld2
          clear hHeld2
          try simp only [Act.put, List.setIfInBounds_toArray, List.set_cons_zero, List.set_cons_succ]
          have HV6 := Aside0.mk hv
          have HB4 := Aside0.mk hb
          clear hv hb hz hk
          refine take_at (i := 7) (take_d rfl) ?_
          intro h_i
          refine wpAnyH_take (v := ?_) h_i (by kernel_rfl) (by kernel_rfl) (by kernel_rfl) (fun _ _ _ h => h) (Or.inl ⟨by rfl, ?_⟩) (by assumption) ?_
          case refine_2 => (intro w hSw; (try dsimp only at hSw); go_simp; (try with_reducible rfl))
          clear h_i
          try simp only [Act.put, List.setIfInBounds_toArray, List.set_cons_zero, List.set_cons_succ]
          refine wpAnyH_ready (rs := [8]) (by kernel_rfl) (by simp) ?_
          refine AllReadyH.cons (take_d rfl) (fun zK hK => ?_) AllReadyH.nil
          obtain ⟨A6, c6, e6, hc6, hC6⟩ := HV6.out.reads
          subst e6
          clear hc6 hC6
          rw [show (lq ++ [cFld]).length = lq.length + 1 from by simp] at HV6
          have q6 := (blk_cell (blk_below Q7.out HB4.out) 6).trans rfl
          have f6 := blk_frozen (blk_below Q7.out HB4.out) 6
          go_simp
          clear q6 f6
          refine hK.out _ _ ?_ (fun hHeld2 => ?_)
          · exact ⟨(blk_cell (blk_far (blk_below C7.out HB4.out) (by dsimp only; have := HBC.out; omega) _) 0).trans rfl, (blk_cell (blk_far (blk_below C7.out HB4.out) (by dsimp only; have := HBC.out; omega) _) 1).trans rfl⟩
          clear hK zK hHeld
          have hHeld := hHeld2
          clear hHeld2
          try simp only [Act.put, List.setIfInBounds_toArray, List.set_cons_zero, List.set_cons_succ]
          refine wpAnyH_done (by kernel_rfl) ?_ _
          go_wp2
          go_meet
          case rel =>
            refine ⟨.slice A6 (lq.length + 1) c6, rfl, ⟨?_⟩, ⟨?_⟩, ⟨?_⟩, ⟨?_⟩⟩
            · exact blk_put (blk_below Q7.out HB4.out) 6 _ rfl
            · exact blk_far (blk_below P7.out HB4.out) (by dsimp only; omega) _
            · exact HV6.out.far (by dsimp only; have := blk_lt Q7.out; omega) _
            · exact Below.setCell (below_step B7.out HB4.out) (by dsimp only; omega) _
        refine AllReadyH.cons (take_d rfl) (fun zK hK => ?_) AllReadyH.nil
        go_simp
        refine hK.out _ _ ?_ (fun hHeld2 => ?_)
        · exact ⟨(blk_cell (blk_below C7.out (below_alloc HB1.out _)) 0).trans rfl, (blk_cell (blk_below C7.out (below_alloc HB1.out _)) 1).trans rfl⟩
        clear hK zK hHeld
        have hHeld := hHeld2
        clear hHeld2
        try simp only [Act.put, List.setIfInBounds_toArray, List.set_cons_zero, List.set_cons_succ]
        refine anyH_at (fun W' => W'.heap[W1.heap.size]? = some (.cells #[.string ⟨#[67, 111, 110, 110, 101, 99, 116, 105, 111, 110]⟩, .string ⟨#[120, 44, 32, 99, 108, 111, 115, 101]⟩] 37 (0, 0)) ∧ Below wa.heap.size wa W' ∧ W'.heap[W0.heap.size]? = some (.cells #[] 37 (0, 0))) ⟨new_at _ rfl, HB1.out.alloc HB1.out.size _, blk_alloc HE.out _⟩ ?_ hHeld
        clear hHeld
        rintro W2 ⟨z0, z1, z2⟩ hHeld
        have HNE := Aside0.mk (show W1.heap.size ≠ W0.heap.size by have := blk_lt HE.out; omega)
        have H5 := Aside0.mk z0
        clear z0
        have HB2 := Aside0.mk z1
        clear z1
        have HE := Aside0.mk z2
        clear z2
        refine wpAnyH_ready (rs := [3]) (by kernel_rfl) (by simp) ?_
        refine AllReadyH.cons (take_d rfl) (fun zK hK => ?_) AllReadyH.nil
        rw [if_pos (by rfl)]
        refine wp_plus (W0 := wa) wa.heap.size _ _ 25 (.agg #[.string ⟨#[]⟩, .string ⟨#[]⟩]) rfl Tryd.underlying25 (by kernel_rfl) (by rfl) _ [] lq A0 c0 rfl rfl (row_empty HE.out HBE.out) (Kd.C_below CQ7.out HB2.out) HB2.out HB2.out.size (by have := HSF.out; have := sumF_length lq; rw [List.length_nil]; omega) ?_
        intro v1 W3 hv hb hz hk
        refine hK.out _ _ ?_ (fun hHeld2 => ?_)
        · exact ⟨(blk_cell (blk_below C7.out hb) 0).trans rfl, (blk_cell (blk_below C7.out hb) 1).trans rfl⟩
        clear hK zK hHeld
        have hHeld := hHeld2
        clear hHeld2
        try simp only [Act.put, List.setIfInBounds_toArray, List.set_cons_zero, List.set_cons_succ]
        have HV := Aside0.mk (show RowF W3 wa.heap.size v1 lq from hv)
        have HB3 := Aside0.mk hb
        have H5 := Aside0.mk (hk _ _ H5.out (fun e => HNE.out (Option.some.inj e)))
        clear hv hb hz hk
        refine wpAnyH_ready (rs := [6]) (by kernel_rfl) (by simp) ?_
        refine AllReadyH.cons (take_d rfl) (fun zK hK => ?_) AllReadyH.nil
        rw [if_pos (by rfl)]
        refine wp_plus (W0 := wa) wa.heap.size _ _ 25 (.agg #[.string ⟨#[]⟩, .string ⟨#[]⟩]) rfl Tryd.underlying25 (by kernel_rfl) (by rfl) v1 lq [cFld] (some ⟨W1.heap.size, 0, none⟩) 1 rfl rfl HV.out (C_one cFld H5.out) HB3.out HB3.out.size (by have := HSF.out; have := sumF_length lq; rw [List.length_singleton]; omega) ?_
        intro v6 W4 hv hb hz hk
        refine hK.out _ _ ?_ (fun hHeld2 => ?_)
        · exact ⟨(blk_cell (blk_below C7.out hb) 0).trans rfl, (blk_cell (blk_below C7.out hb) 1).trans rfl⟩
        clear hK zK hHeld
        have hHeld := hHeld2
        clear hHeld2
        try simp only [Act.put, List.setIfInBounds_toArray, List.set_cons_zero, List.set_cons_succ]
        have HV6 := Aside0.mk hv
        have HB4 := Aside0.mk hb
        clear hv hb hz hk
        refine take_at (i := 7) (take_d rfl) ?_
        intro h_i
        refine wpAnyH_take (v := ?_) h_i (by kernel_rfl) (by kernel_rfl) (by kernel_rfl) (fun _ _ _ h => h) (Or.inl ⟨by rfl, ?_⟩) (by assumption) ?_
        case refine_2 => (intro w hSw; (try dsimp only at hSw); go_simp; (try with_reducible rfl))
        clear h_i
        try simp only [Act.put, List.setIfInBounds_toArray, List.set_cons_zero, List.set_cons_succ]
        refine wpAnyH_ready (rs := [8]) (by kernel_rfl) (by simp) ?_
        refine AllReadyH.cons (take_d rfl) (fun zK hK => ?_) AllReadyH.nil
        obtain ⟨A6, c6, e6, hc6, hC6⟩ := HV6.out.reads
        subst e6
        clear hc6 hC6
        rw [show (lq ++ [cFld]).length = lq.length + 1 from by simp] at HV6
        have q6 := (blk_cell (blk_below Q7.out HB4.out) 6).trans rfl
        have f6 := blk_frozen (blk_below Q7.out HB4.out) 6
        go_simp
        clear q6 f6
        refine hK.out _ _ ?_ (fun hHeld2 => ?_)
        · exact ⟨(blk_cell (blk_far (blk_below C7.out HB4.out) (by dsimp only; have := HBC.out; omega) _) 0).trans rfl, (blk_cell (blk_far (blk_below C7.out HB4.out) (by dsimp only; have := HBC.out; omega) _) 1).trans rfl⟩
        clear hK zK hHeld
        have hHeld := hHeld2
        clear hHeld2
        try simp only [Act.put, List.setIfInBounds_toArray, List.set_cons_zero, List.set_cons_succ]
        refine wpAnyH_done (by kernel_rfl) ?_ _
        go_wp2
        go_meet
        case rel =>
          refine ⟨.slice A6 (lq.length + 1) c6, rfl, ⟨?_⟩, ⟨?_⟩, ⟨?_⟩, ⟨?_⟩⟩
          · exact blk_put (blk_below Q7.out HB4.out) 6 _ rfl
          · exact blk_far (blk_below P7.out HB4.out) (by dsimp only; omega) _
          · exact HV6.out.far (by dsimp only; have := blk_lt Q7.out; omega) _
          · exact Below.setCell (below_step B7.out HB4.out) (by dsimp only; omega) _
      refine AllReadyH.cons (take_d rfl) (fun zK hK => ?_) AllReadyH.nil
      go_simp
      refine hK.out _ _ ?_ (fun hHeld2 => ?_)
      · exact ⟨(blk_cell (blk_below C7.out (below_alloc HB0.out _)) 0).trans rfl, (blk_cell (blk_below C7.out (below_alloc HB0.out _)) 1).trans rfl⟩
      clear hK zK hHeld
      have hHeld := hHeld2
      clear hHeld2
      try simp only [Act.put, List.setIfInBounds_toArray, List.set_cons_zero, List.set_cons_succ]
      refine anyH_at (fun W' => W'.heap[W0.heap.size]? = some (.cells #[.string ⟨#[67, 111, 110, 110, 101, 99, 116, 105, 111, 110]⟩, .string ⟨#[120, 44, 32, 99, 108, 111, 115, 101]⟩] 37 (0, 0)) ∧ Below wa.heap.size wa W') ⟨new_at _ rfl, HB0.out.alloc HB0.out.size _⟩ ?_ hHeld
      clear hHeld
      rintro W1 ⟨z0, z1⟩ hHeld
      have H5 := Aside0.mk z0
      clear z0
      have HB1 := Aside0.mk z1
      clear z1
      refine wpAnyH_ready (rs := [0]) (by kernel_rfl) (by simp) ?_
      refine AllReadyH.cons (take_d rfl) (fun zK hK => ?_) AllReadyH.nil
      go_simp
      refine hK.out _ _ ?_ (fun hHeld2 => ?_)
      · exact ⟨(blk_cell (blk_below C7.out (below_alloc HB1.out _)) 0).trans rfl, (blk_cell (blk_below C7.out (below_alloc HB1.out _)) 1).trans rfl⟩
      clear hK zK hHeld
      have hHeld := hHeld2
      clear hHeld2
      try simp only [Act.put, List.setIfInBounds_toArray, List.set_cons_zero, List.set_cons_succ]
      refine anyH_at (fun W' => W'.heap[W1.heap.size]? = some (.cells #[] 37 (0, 0)) ∧ Below wa.heap.size wa W' ∧ W'.heap[W0.heap.size]? = some (.cells #[.string ⟨#[67, 111, 110, 110, 101, 99, 116, 105, 111, 110]⟩, .string ⟨#[120, 44, 32, 99, 108, 111, 115, 101]⟩] 37 (0, 0))) ⟨new_at _ rfl, HB1.out.alloc HB1.out.size _, blk_alloc H5.out _⟩ ?_ hHeld
      clear hHeld
      rintro W2 ⟨z0, z1, z2⟩ hHeld
      have HNE := Aside0.mk (show W0.heap.size ≠ W1.heap.size by have := blk_lt H5.out; omega)
      have HBE := Aside0.mk (show wa.heap.size ≤ W1.heap.size from HB1.out.size)
      have HE := Aside0.mk z0
      clear z0
      have HB2 := Aside0.mk z1
      clear z1
      have H5 := Aside0.mk z2
      clear z2
      refine wpAnyH_ready (rs := [3]) (by kernel_rfl) (by simp) ?_
      refine AllReadyH.cons (take_d rfl) (fun zK hK => ?_) AllReadyH.nil
      rw [if_pos (by rfl)]
      refine wp_plus (W0 := wa) wa.heap.size _ _ 25 (.agg #[.string ⟨#[]⟩, .string ⟨#[]⟩]) rfl Tryd.underlying25 (by kernel_rfl) (by rfl) _ [] lq A0 c0 rfl rfl (row_empty HE.out HBE.out) (Kd.C_below CQ7.out HB2.out) HB2.out HB2.out.size (by have := HSF.out; have := sumF_length lq; rw [List.length_nil]; omega) ?_
      intro v1 W3 hv hb hz hk
      refine hK.out _ _ ?_ (fun hHeld2 => ?_)
      · exact ⟨(blk_cell (blk_below C7.out hb) 0).trans rfl, (blk_cell (blk_below C7.out hb) 1).trans rfl⟩
      clear hK zK hHeld
      have hHeld := hHeld2
      clear hHeld2
      try simp only [Act.put, List.setIfInBounds_toArray, List.set_cons_zero, List.set_cons_succ]
      have HV := Aside0.mk (show RowF W3 wa.heap.size v1 lq from hv)
      have HB3 := Aside0.mk hb
      have H5 := Aside0.mk (hk _ _ H5.out (fun e => HNE.out (Option.some.inj e)))
      clear hv hb hz hk
      refine wpAnyH_ready (rs := [6]) (by kernel_rfl) (by simp) ?_
      refine AllReadyH.cons (take_d rfl) (fun zK hK => ?_) AllReadyH.nil
      rw [if_pos (by rfl)]
      refine wp_plus (W0 := wa) wa.heap.size _ _ 25 (.agg #[.string ⟨#[]⟩, .string ⟨#[]⟩]) rfl Tryd.underlying25 (by kernel_rfl) (by rfl) v1 lq [cFld] (some ⟨W0.heap.size, 0, none⟩) 1 rfl rfl HV.out (C_one cFld H5.out) HB3.out HB3.out.size (by have := HSF.out; have := sumF_length lq; rw [List.length_singleton]; omega) ?_
      intro v6 W4 hv hb hz hk
      refine hK.out _ _ ?_ (fun hHeld2 => ?_)
      · exact ⟨(blk_cell (blk_below C7.out hb) 0).trans rfl, (blk_cell (blk_below C7.out hb) 1).trans rfl⟩
      clear hK zK hHeld
      have hHeld := hHeld2
      clear hHeld2
      try simp only [Act.put, List.setIfInBounds_toArray, List.set_cons_zero, List.set_cons_succ]
      have HV6 := Aside0.mk hv
      have HB4 := Aside0.mk hb
      clear hv hb hz hk
      refine take_at (i := 7) (take_d rfl) ?_
      intro h_i
      refine wpAnyH_take (v := ?_) h_i (by kernel_rfl) (by kernel_rfl) (by kernel_rfl) (fun _ _ _ h => h) (Or.inl ⟨by rfl, ?_⟩) (by assumption) ?_
      case refine_2 => (intro w hSw; (try dsimp only at hSw); go_simp; (try with_reducible rfl))
      clear h_i
      try simp only [Act.put, List.setIfInBounds_toArray, List.set_cons_zero, List.set_cons_succ]
      refine wpAnyH_ready (rs := [8]) (by kernel_rfl) (by simp) ?_
      refine AllReadyH.cons (take_d rfl) (fun zK hK => ?_) AllReadyH.nil
      obtain ⟨A6, c6, e6, hc6, hC6⟩ := HV6.out.reads
      subst e6
      clear hc6 hC6
      rw [show (lq ++ [cFld]).length = lq.length + 1 from by simp] at HV6
      have q6 := (blk_cell (blk_below Q7.out HB4.out) 6).trans rfl
      have f6 := blk_frozen (blk_below Q7.out HB4.out) 6
      go_simp
      clear q6 f6
      refine hK.out _ _ ?_ (fun hHeld2 => ?_)
      · exact ⟨(blk_cell (blk_far (blk_below C7.out HB4.out) (by dsimp only; have := HBC.out; omega) _) 0).trans rfl, (blk_cell (blk_far (blk_below C7.out HB4.out) (by dsimp only; have := HBC.out; omega) _) 1).trans rfl⟩
      clear hK zK hHeld
      have hHeld := hHeld2
      clear hHeld2
      try simp only [Act.put, List.setIfInBounds_toArray, List.set_cons_zero, List.set_cons_succ]
      refine wpAnyH_done (by kernel_rfl) ?_ _
      go_wp2
      go_meet
      case rel =>
        refine ⟨.slice A6 (lq.length + 1) c6, rfl, ⟨?_⟩, ⟨?_⟩, ⟨?_⟩, ⟨?_⟩⟩
        · exact blk_put (blk_below Q7.out HB4.out) 6 _ rfl
        · exact blk_far (blk_below P7.out HB4.out) (by dsimp only; omega) _
        · exact HV6.out.far (by dsimp only; have := blk_lt Q7.out; omega) _
        · exact Below.setCell (below_step B7.out HB4.out) (by dsimp only; omega) _
    refine AllReadyH.cons (take_d rfl) (fun zK hK => ?_) AllReadyH.nil
    go_simp
    refine hK.out _ _ ?_ (fun hHeld2 => ?_)
    · exact ⟨(blk_cell (blk_below C7.out (below_alloc HB0.out _)) 0).trans rfl, (blk_cell (blk_below C7.out (below_alloc HB0.out _)) 1).trans rfl⟩
    clear hK zK hHeld
    have hHeld := hHeld2
    clear hHeld2
    try simp only [Act.put, List.setIfInBounds_toArray, List.set_cons_zero, List.set_cons_succ]
    refine anyH_at (fun W' => W'.heap[W0.heap.size]? = some (.cells #[.string ⟨#[67, 111, 110, 110, 101, 99, 116, 105, 111, 110]⟩, .string ⟨#[120, 44, 32, 99, 108, 111, 115, 101]⟩] 37 (0, 0)) ∧ Below wa.heap.size wa W') ⟨new_at _ rfl, HB0.out.alloc HB0.out.size _⟩ ?_ hHeld
    clear hHeld
    rintro W1 ⟨z0, z1⟩ hHeld
    have H5 := Aside0.mk z0
    clear z0
    have HB1 := Aside0.mk z1
    clear z1
    refine wpAnyH_ready (rs := [0, 2]) (by kernel_rfl) (by simp) ?_
    refine AllReadyH.cons (take_d rfl) (fun zK hK => ?_) ?_
    · go_simp
      refine hK.out _ _ ?_ (fun hHeld2 => ?_)
      · exact ⟨(blk_cell (blk_below C7.out (below_alloc HB1.out _)) 0).trans rfl, (blk_cell (blk_below C7.out (below_alloc HB1.out _)) 1).trans rfl⟩
      clear hK zK hHeld
      have hHeld := hHeld2
      clear hHeld2
      try simp only [Act.put, List.setIfInBounds_toArray, List.set_cons_zero, List.set_cons_succ]
      refine anyH_at (fun W' => W'.heap[W1.heap.size]? = some (.cells #[] 37 (0, 0)) ∧ Below wa.heap.size wa W' ∧ W'.heap[W0.heap.size]? = some (.cells #[.string ⟨#[67, 111, 110, 110, 101, 99, 116, 105, 111, 110]⟩, .string ⟨#[120, 44, 32, 99, 108, 111, 115, 101]⟩] 37 (0, 0))) ⟨new_at _ rfl, HB1.out.alloc HB1.out.size _, blk_alloc H5.out _⟩ ?_ hHeld
      clear hHeld
      rintro W2 ⟨z0, z1, z2⟩ hHeld
      have HNE := Aside0.mk (show W0.heap.size ≠ W1.heap.size by have := blk_lt H5.out; omega)
      have HBE := Aside0.mk (show wa.heap.size ≤ W1.heap.size from HB1.out.size)
      have HE := Aside0.mk z0
      clear z0
      have HB2 := Aside0.mk z1
      clear z1
      have H5 := Aside0.mk z2
      clear z2
      refine wpAnyH_ready (rs := [2]) (by kernel_rfl) (by simp) ?_
      refine AllReadyH.cons (take_d rfl) (fun zK hK => ?_) AllReadyH.nil
      have q6 := (blk_cell (blk_below Q7.out HB2.out) 6).trans rfl
      go_simp
      clear q6
      refine hK.out _ _ ?_ (fun hHeld2 => ?_)
      · exact hHeld
      clear hK zK hHeld
      have hHeld := hHeld2
      clear hHeld2
      try simp only [Act.put, List.setIfInBounds_toArray, List.set_cons_zero, List.set_cons_succ]
      refine wpAnyH_ready (rs := [3]) (by kernel_rfl) (by simp) ?_
      refine AllReadyH.cons (take_d rfl) (fun zK hK => ?_) AllReadyH.nil
      rw [if_pos (by rfl)]
      refine wp_plus (W0 := wa) wa.heap.size _ _ 25 (.agg #[.string ⟨#[]⟩, .string ⟨#[]⟩]) rfl Tryd.underlying25 (by kernel_rfl) (by rfl) _ [] lq A0 c0 rfl rfl (row_empty HE.out HBE.out) (Kd.C_below CQ7.out HB2.out) HB2.out HB2.out.size (by have := HSF.out; have := sumF_length lq; rw [List.length_nil]; omega) ?_
      intro v1 W3 hv hb hz hk
      refine hK.out _ _ ?_ (fun hHeld2 => ?_)
      · exact ⟨(blk_cell (blk_below C7.out hb) 0).trans rfl, (blk_cell (blk_below C7.out hb) 1).trans rfl⟩
      clear hK zK hHeld
      have hHeld := hHeld2
      clear hHeld2
      try simp only [Act.put, List.setIfInBounds_toArray, List.set_cons_zero, List.set_cons_succ]
      have HV := Aside0.mk (show RowF W3 wa.heap.size v1 lq from hv)
      have HB3 := Aside0.mk hb
      have H5 := Aside0.mk (hk _ _ H5.out (fun e => HNE.out (Option.some.inj e)))
      clear hv hb hz hk
      refine wpAnyH_ready (rs := [6]) (by kernel_rfl) (by simp) ?_
      refine AllReadyH.cons (take_d rfl) (fun zK hK => ?_) AllReadyH.nil
      rw [if_pos (by rfl)]
      refine wp_plus (W0 := wa) wa.heap.size _ _ 25 (.agg #[.string ⟨#[]⟩, .string ⟨#[]⟩]) rfl Tryd.underlying25 (by kernel_rfl) (by rfl) v1 lq [cFld] (some ⟨W0.heap.size, 0, none⟩) 1 rfl rfl HV.out (C_one cFld H5.out) HB3.out HB3.out.size (by have := HSF.out; have := sumF_length lq; rw [List.length_singleton]; omega) ?_
      intro v6 W4 hv hb hz hk
      refine hK.out _ _ ?_ (fun hHeld2 => ?_)
      · exact ⟨(blk_cell (blk_below C7.out hb) 0).trans rfl, (blk_cell (blk_below C7.out hb) 1).trans rfl⟩
      clear hK zK hHeld
      have hHeld := hHeld2
      clear hHeld2
      try simp only [Act.put, List.setIfInBounds_toArray, List.set_cons_zero, List.set_cons_succ]
      have HV6 := Aside0.mk hv
      have HB4 := Aside0.mk hb
      clear hv hb hz hk
      refine take_at (i := 7) (take_d rfl) ?_
      intro h_i
      refine wpAnyH_take (v := ?_) h_i (by kernel_rfl) (by kernel_rfl) (by kernel_rfl) (fun _ _ _ h => h) (Or.inl ⟨by rfl, ?_⟩) (by assumption) ?_
      case refine_2 => (intro w hSw; (try dsimp only at hSw); go_simp; (try with_reducible rfl))
      clear h_i
      try simp only [Act.put, List.setIfInBounds_toArray, List.set_cons_zero, List.set_cons_succ]
      refine wpAnyH_ready (rs := [8]) (by kernel_rfl) (by simp) ?_
      refine AllReadyH.cons (take_d rfl) (fun zK hK => ?_) AllReadyH.nil
      obtain ⟨A6, c6, e6, hc6, hC6⟩ := HV6.out.reads
      subst e6
      clear hc6 hC6
      rw [show (lq ++ [cFld]).length = lq.length + 1 from by simp] at HV6
      have q6 := (blk_cell (blk_below Q7.out HB4.out) 6).trans rfl
      have f6 := blk_frozen (blk_below Q7.out HB4.out) 6
      go_simp
      clear q6 f6
      refine hK.out _ _ ?_ (fun hHeld2 => ?_)
      · exact ⟨(blk_cell (blk_far (blk_below C7.out HB4.out) (by dsimp only; have := HBC.out; omega) _) 0).trans rfl, (blk_cell (blk_far (blk_below C7.out HB4.out) (by dsimp only; have := HBC.out; omega) _) 1).trans rfl⟩
      clear hK zK hHeld
      have hHeld := hHeld2
      clear hHeld2
      try simp only [Act.put, List.setIfInBounds_toArray, List.set_cons_zero, List.set_cons_succ]
      refine wpAnyH_done (by kernel_rfl) ?_ _
      go_wp2
      go_meet
      case rel =>
        refine ⟨.slice A6 (lq.length + 1) c6, rfl, ⟨?_⟩, ⟨?_⟩, ⟨?_⟩, ⟨?_⟩⟩
        · exact blk_put (blk_below Q7.out HB4.out) 6 _ rfl
        · exact blk_far (blk_below P7.out HB4.out) (by dsimp only; omega) _
        · exact HV6.out.far (by dsimp only; have := blk_lt Q7.out; omega) _
        · exact Below.setCell (below_step B7.out HB4.out) (by dsimp only; omega) _
    refine AllReadyH.cons (take_d rfl) (fun zK hK => ?_) AllReadyH.nil
    have q6 := (blk_cell (blk_below Q7.out HB1.out) 6).trans rfl
    go_simp
    clear q6
    refine hK.out _ _ ?_ (fun hHeld2 => ?_)
    · exact hHeld
    clear hK zK hHeld
    have hHeld := hHeld2
    clear hHeld2
    try simp only [Act.put, List.setIfInBounds_toArray, List.set_cons_zero, List.set_cons_succ]
    refine wpAnyH_ready (rs := [0]) (by kernel_rfl) (by simp) ?_
    refine AllReadyH.cons (take_d rfl) (fun zK hK => ?_) AllReadyH.nil
    go_simp
    refine hK.out _ _ ?_ (fun hHeld2 => ?_)
    · exact ⟨(blk_cell (blk_below C7.out (below_alloc HB1.out _)) 0).trans rfl, (blk_cell (blk_below C7.out (below_alloc HB1.out _)) 1).trans rfl⟩
    clear hK zK hHeld
    have hHeld := hHeld2
    clear hHeld2
    try simp only [Act.put, List.setIfInBounds_toArray, List.set_cons_zero, List.set_cons_succ]
    refine anyH_at (fun W' => W'.heap[W1.heap.size]? = some (.cells #[] 37 (0, 0)) ∧ Below wa.heap.size wa W' ∧ W'.heap[W0.heap.size]? = some (.cells #[.string ⟨#[67, 111, 110, 110, 101, 99, 116, 105, 111, 110]⟩, .string ⟨#[120, 44, 32, 99, 108, 111, 115, 101]⟩] 37 (0, 0))) ⟨new_at _ rfl, HB1.out.alloc HB1.out.size _, blk_alloc H5.out _⟩ ?_ hHeld
    clear hHeld
    rintro W2 ⟨z0, z1, z2⟩ hHeld
    have HNE := Aside0.mk (show W0.heap.size ≠ W1.heap.size by have := blk_lt H5.out; omega)
    have HBE := Aside0.mk (show wa.heap.size ≤ W1.heap.size from HB1.out.size)
    have HE := Aside0.mk z0
    clear z0
    have HB2 := Aside0.mk z1
    clear z1
    have H5 := Aside0.mk z2
    clear z2
    refine wpAnyH_ready (rs := [3]) (by kernel_rfl) (by simp) ?_
    refine AllReadyH.cons (take_d rfl) (fun zK hK => ?_) AllReadyH.nil
    rw [if_pos (by rfl)]
    refine wp_plus (W0 := wa) wa.heap.size _ _ 25 (.agg #[.string ⟨#[]⟩, .string ⟨#[]⟩]) rfl Tryd.underlying25 (by kernel_rfl) (by rfl) _ [] lq A0 c0 rfl rfl (row_empty HE.out HBE.out) (Kd.C_below CQ7.out HB2.out) HB2.out HB2.out.size (by have := HSF.out; have := sumF_length lq; rw [List.length_nil]; omega) ?_
    intro v1 W3 hv hb hz hk
    refine hK.out _ _ ?_ (fun hHeld2 => ?_)
    · exact ⟨(blk_cell (blk_below C7.out hb) 0).trans rfl, (blk_cell (blk_below C7.out hb) 1).trans rfl⟩
    clear hK zK hHeld
    have hHeld := hHeld2
    clear hHeld2
    try simp only [Act.put, List.setIfInBounds_toArray, List.set_cons_zero, List.set_cons_succ]
    have HV := Aside0.mk (show RowF W3 wa.heap.size v1 lq from hv)
    have HB3 := Aside0.mk hb
    have H5 := Aside0.mk (hk _ _ H5.out (fun e => HNE.out (Option.some.inj e)))
    clear hv hb hz hk
    refine wpAnyH_ready (rs := [6]) (by kernel_rfl) (by simp) ?_
    refine AllReadyH.cons (take_d rfl) (fun zK hK => ?_) AllReadyH.nil
    rw [if_pos (by rfl)]
    refine wp_plus (W0 := wa) wa.heap.size _ _ 25 (.agg #[.string ⟨#[]⟩, .string ⟨#[]⟩]) rfl Tryd.underlying25 (by kernel_rfl) (by rfl) v1 lq [cFld] (some ⟨W0.heap.size, 0, none⟩) 1 rfl rfl HV.out (C_one cFld H5.out) HB3.out HB3.out.size (by have := HSF.out; have := sumF_length lq; rw [List.length_singleton]; omega) ?_
    intro v6 W4 hv hb hz hk
    refine hK.out _ _ ?_ (fun hHeld2 => ?_)
    · exact ⟨(blk_cell (blk_below C7.out hb) 0).trans rfl, (blk_cell (blk_below C7.out hb) 1).trans rfl⟩
    clear hK zK hHeld
    have hHeld := hHeld2
    clear hHeld2
    try simp only [Act.put, List.setIfInBounds_toArray, List.set_cons_zero, List.set_cons_succ]
    have HV6 := Aside0.mk hv
    have HB4 := Aside0.mk hb
    clear hv hb hz hk
    refine take_at (i := 7) (take_d rfl) ?_
    intro h_i
    refine wpAnyH_take (v := ?_) h_i (by kernel_rfl) (by kernel_rfl) (by kernel_rfl) (fun _ _ _ h => h) (Or.inl ⟨by rfl, ?_⟩) (by assumption) ?_
    case refine_2 => (intro w hSw; (try dsimp only at hSw); go_simp; (try with_reducible rfl))
    clear h_i
    try simp only [Act.put, List.setIfInBounds_toArray, List.set_cons_zero, List.set_cons_succ]
    refine wpAnyH_ready (rs := [8]) (by kernel_rfl) (by simp) ?_
    refine AllReadyH.cons (take_d rfl) (fun zK hK => ?_) AllReadyH.nil
    obtain ⟨A6, c6, e6, hc6, hC6⟩ := HV6.out.reads
    subst e6
    clear hc6 hC6
    rw [show (lq ++ [cFld]).length = lq.length + 1 from by simp] at HV6
    have q6 := (blk_cell (blk_below Q7.out HB4.out) 6).trans rfl
    have f6 := blk_frozen (blk_below Q7.out HB4.out) 6
    go_simp
    clear q6 f6
    refine hK.out _ _ ?_ (fun hHeld2 => ?_)
    · exact ⟨(blk_cell (blk_far (blk_below C7.out HB4.out) (by dsimp only; have := HBC.out; omega) _) 0).trans rfl, (blk_cell (blk_far (blk_below C7.out HB4.out) (by dsimp only; have := HBC.out; omega) _) 1).trans rfl⟩
    clear hK zK hHeld
    have hHeld := hHeld2
    clear hHeld2
    try simp only [Act.put, List.setIfInBounds_toArray, List.set_cons_zero, List.set_cons_succ]
    refine wpAnyH_done (by kernel_rfl) ?_ _
    go_wp2
    go_meet
    case rel =>
      refine ⟨.slice A6 (lq.length + 1) c6, rfl, ⟨?_⟩, ⟨?_⟩, ⟨?_⟩, ⟨?_⟩⟩
      · exact blk_put (blk_below Q7.out HB4.out) 6 _ rfl
      · exact blk_far (blk_below P7.out HB4.out) (by dsimp only; omega) _
      · exact HV6.out.far (by dsimp only; have := blk_lt Q7.out; omega) _
      · exact Below.setCell (below_step B7.out HB4.out) (by dsimp only; omega) _
  case rest =>
    obtain ⟨v6, rfl, X8, Y8, R8, B8⟩ := hcut
    obtain ⟨A6, c6, rfl, hc6, hC6⟩ := R8.out.reads
    have Q8 := Aside0.mk (show HaAt wc w.heap.size o ik iz ok oz rest A6 (lq ++ [cFld]).length c6 from X8.out)
    have P8 := Aside0.mk (show HaAt wc (w.heap.size + 1) o' ik' iz' ok' oz' rest' A1 lp.length c1 from Y8.out)
    have KQ := Aside0.mk hC6
    have DQ := Aside0.mk hc6
    have KP := Aside0.mk (HBL.out _ B8.out).2.1
    have DP := Aside0.mk HC1.out
    have HJF := Aside0.mk (judge_closeQ o ik iz ok oz rest lq o' ik' iz' ok' oz' rest' lp (by have := HSF.out; omega) (by have := HSF'.out; omega))
    clear hc6 hC6 X8 Y8 R8
    generalize lq ++ [cFld] = lx at *
    go_upto_region 9 with (fail)
    refine wp_region_held_drew (S := (fun W => W.cell? ⟨w.heap.size, 0, none⟩ = some (.int .i64 o) ∧ W.cell? ⟨w.heap.size, 1, none⟩ = some (.int .i64 ik) ∧ W.cell? ⟨w.heap.size, 2, none⟩ = some (.int .u64 iz) ∧ W.cell? ⟨w.heap.size, 3, none⟩ = some (.int .i64 ok) ∧ W.cell? ⟨w.heap.size, 4, none⟩ = some (.int .u64 oz) ∧ W.cell? ⟨w.heap.size, 5, none⟩ = some (.int .i64 rest) ∧ W.cell? ⟨w.heap.size, 6, none⟩ = some (.slice A6 lx.length c6) ∧ W.cell? ⟨w.heap.size + 1, 0, none⟩ = some (.int .i64 o') ∧ W.cell? ⟨w.heap.size + 1, 1, none⟩ = some (.int .i64 ik') ∧ W.cell? ⟨w.heap.size + 1, 2, none⟩ = some (.int .u64 iz') ∧ W.cell? ⟨w.heap.size + 1, 3, none⟩ = some (.int .i64 ok') ∧ W.cell? ⟨w.heap.size + 1, 4, none⟩ = some (.int .u64 oz') ∧ W.cell? ⟨w.heap.size + 1, 5, none⟩ = some (.int .i64 rest') ∧ W.cell? ⟨w.heap.size + 1, 6, none⟩ = some (.slice A1 lp.length c1))) (by kernel_rfl) ?_ (fun hHeld => ?_)
    · exact and14 (blk_below Q8.out (by repeat (first | exact Below.refl _ _ | refine below_step ?_ (by assumption) | apply below_alloc | apply below_drew1))) (blk_below P8.out (by repeat (first | exact Below.refl _ _ | refine below_step ?_ (by assumption) | apply below_alloc | apply below_drew1)))
    refine take_at (i := 0) (take_d rfl) ?_
    intro h_i
    refine wpAnyH_take (v := ?_) h_i (by kernel_rfl) (by kernel_rfl) (by kernel_rfl) (fun _ _ _ h => h) (Or.inl ⟨by rfl, ?_⟩) (by assumption) ?_
    case refine_2 => (intro w hSw; (try dsimp only at hSw); go_simp; (try with_reducible rfl))
    clear h_i
    try simp only [Act.put, List.setIfInBounds_toArray, List.set_cons_zero, List.set_cons_succ]
    refine take_at (i := 2) (take_d rfl) ?_
    intro h_i
    refine wpAnyH_take (v := ?_) h_i (by kernel_rfl) (by kernel_rfl) (by kernel_rfl) (fun _ _ _ h => h) (Or.inl ⟨by rfl, ?_⟩) (by assumption) ?_
    case refine_2 => (intro w hSw; (try dsimp only at hSw); go_simp; (try with_reducible rfl))
    clear h_i
    try simp only [Act.put, List.setIfInBounds_toArray, List.set_cons_zero, List.set_cons_succ]
    refine take_at (i := 5) (take_d rfl) ?_
    intro h_i
    refine wpAnyH_take (v := ?_) h_i (by kernel_rfl) (by kernel_rfl) (by kernel_rfl) (fun _ _ _ h => h) (Or.inl ⟨by rfl, ?_⟩) (by assumption) ?_
    case refine_2 => (intro w hSw; (try dsimp only at hSw); go_simp; (try with_reducible rfl))
    clear h_i
    try simp only [Act.put, List.setIfInBounds_toArray, List.set_cons_zero, List.set_cons_succ]
    refine wpAnyH_ready (rs := [1]) (by kernel_rfl) (by simp) ?_
    refine AllReadyH.cons (take_d rfl) (fun zK hK => ?_) AllReadyH.nil
    go_simp
    refine (of_calls _ _ _ _ _ _ _ _ _ _).mono ?_
    rintro e w10 ⟨rfl, b10⟩
    go_wp2_with fail
    refine hK.out _ _ ?_ (fun hHeld2 => ?_)
    · exact and14 (blk_below Q8.out (by repeat (first | exact Below.refl _ _ | refine below_step ?_ (by assumption) | apply below_alloc | apply below_drew1))) (blk_below P8.out (by repeat (first | exact Below.refl _ _ | refine below_step ?_ (by assumption) | apply below_alloc | apply below_drew1)))
    clear hK zK hHeld
    have hHeld := hHeld2
    clear hHeld2
    try simp only [Act.put, List.setIfInBounds_toArray, List.set_cons_zero, List.set_cons_succ]
    refine wpAnyH_ready (rs := [3]) (by kernel_rfl) (by simp) ?_
    refine AllReadyH.cons (take_d rfl) (fun zK hK => ?_) AllReadyH.nil
    go_simp
    refine (of_calls _ _ _ _ _ _ _ _ _ _).mono ?_
    rintro e w11 ⟨rfl, b11⟩
    go_wp2_with fail
    refine hK.out _ _ ?_ (fun hHeld2 => ?_)
    · exact and14 (blk_below Q8.out (by repeat (first | exact Below.refl _ _ | refine below_step ?_ (by assumption) | apply below_alloc | apply below_drew1))) (blk_below P8.out (by repeat (first | exact Below.refl _ _ | refine below_step ?_ (by assumption) | apply below_alloc | apply below_drew1)))
    clear hK zK hHeld
    have hHeld := hHeld2
    clear hHeld2
    try simp only [Act.put, List.setIfInBounds_toArray, List.set_cons_zero, List.set_cons_succ]
    refine wpAnyH_ready (rs := [4]) (by kernel_rfl) (by simp) ?_
    refine AllReadyH.cons (take_d rfl) (fun zK hK => ?_) AllReadyH.nil
    go_simp
    refine Calls.mono (reuse_Judge.calls o ik iz ok oz rest A6 c6 lx o' ik' iz' ok' oz' rest' A1 c1 lp false false _ (Kd.C_below KQ.out (by repeat (first | exact Below.refl _ _ | refine below_step ?_ (by assumption) | apply below_alloc | apply below_drew1))) DQ.out (Kd.C_below KP.out (by repeat (first | exact Below.refl _ _ | refine below_step ?_ (by assumption) | apply below_alloc | apply below_drew1))) DP.out (HBL.out _ (below_step B8.out (by repeat (first | exact Below.refl _ _ | refine below_step ?_ (by assumption) | apply below_alloc | apply below_drew1)))).2.2 HJF.out) ?_
    rintro e w12 ⟨rfl, b12⟩
    go_wp2_with fail
    refine hK.out _ _ ?_ (fun hHeld2 => ?_)
    · exact and14 (blk_below Q8.out (by repeat (first | exact Below.refl _ _ | refine below_step ?_ (by assumption) | apply below_alloc | apply below_drew1))) (blk_below P8.out (by repeat (first | exact Below.refl _ _ | refine below_step ?_ (by assumption) | apply below_alloc | apply below_drew1)))
    clear hK zK hHeld
    have hHeld := hHeld2
    clear hHeld2
    try simp only [Act.put, List.setIfInBounds_toArray, List.set_cons_zero, List.set_cons_succ]
    refine take_at (i := 6) (take_d rfl) ?_
    intro h_i
    refine wpAnyH_take (v := ?_) h_i (by kernel_rfl) (by kernel_rfl) (by kernel_rfl) (fun _ _ _ h => h) (Or.inl ⟨by rfl, ?_⟩) (by assumption) ?_
    case refine_2 => (intro w hSw; (try dsimp only at hSw); go_simp; (try with_reducible rfl))
    clear h_i
    try simp only [Act.put, List.setIfInBounds_toArray, List.set_cons_zero, List.set_cons_succ]
    refine take_at (i := 7) (take_d rfl) ?_
    intro h_i
    refine wpAnyH_take (v := ?_) h_i (by kernel_rfl) (by kernel_rfl) (by kernel_rfl) (fun _ _ _ h => h) (Or.inl ⟨by rfl, ?_⟩) (by assumption) ?_
    case refine_2 => (intro w hSw; (try dsimp only at hSw); go_simp; (try with_reducible rfl))
    clear h_i
    try simp only [Act.put, List.setIfInBounds_toArray, List.set_cons_zero, List.set_cons_succ]
    refine wpAnyH_done (by kernel_rfl) ?_ _
    go_wp2
    go_ret
    exact ⟨rfl, below_step B8.out (by repeat (first | exact Below.refl _ _ | refine below_step ?_ (by assumption) | apply below_alloc | apply below_drew1))⟩
end Go.Proofs.YtofegjgiocljlaaDoor.Pg
end
