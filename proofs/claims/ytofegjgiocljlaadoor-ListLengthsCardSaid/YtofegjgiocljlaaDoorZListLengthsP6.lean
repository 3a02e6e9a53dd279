import Derived.Test.YtofegjgiocljlaaDoorZListLengthsP1
import Derived.Test.YtofegjgiocljlaaDoorZListLengthsP4
import Derived.Test.YtofegjgiocljlaaDoorZListLengthsP5
import Derived.Test.YtofegjgiocljlaaDoorZListLengthsP2
import Derived.Test.YtofegjgiocljlaaDoorZListLengthsP3
section
namespace Go.Proofs.YtofegjgiocljlaaDoor.Pr
open Go.RowKit Go.Proofs.YtofegjgiocljlaaDoorH Go.Proofs.YtofegjgiocljlaaDoorW.PrintWords Go.Proofs.YtofegjgiocljlaaDoorW.PrintLast Go.Proofs.YtofegjgiocljlaaDoorW.PrintMore
attribute [local go_sem] max2_int min2_int max_two min_two max_three min_three max_four min_four   -- for this text's walks alone
set_option linter.unusedVariables false
set_option linter.unusedSimpArgs false
mutual
def catchpitref07_Length.l0 : Nat → List ByteArray → Bool → Bool → Int → Int → Option (Int × Int)
  | 0, _, _, _, _, _ => none
  | k + 1, x0, x4, x5, x6, x7 => if x7 < (x0.length : Int) then (if 0 ≤ x7 then (if x7 ≤ (wrap64 (x7 + 1)) then (if (wrap64 (x7 + 1)) ≤ (x0.length : Int) then ((catchpitref07_Items.f k ((x0.take ((wrap64 (x7 + 1)) : Int).toNat).drop (x7 : Int).toNat)).bind fun t183 => (if (t183.length : Int) = 0 then (some (0, 2)) else (catchpitref07_Length.l1 k x0 x4 x5 x6 x7 t183 0))) else (none)) else (none)) else (none)) else (if x4 = true then (some (0, 3)) else (if x5 = true then (some (x6, 0)) else (some (0, 2))))
def catchpitref07_Length.l1 : Nat → List ByteArray → Bool → Bool → Int → Int → List ByteArray → Int → Option (Int × Int)
  | 0, _, _, _, _, _, _, _ => none
  | k + 1, x0, x4, x5, x6, x7, x8, x9 => if x9 < (x8.length : Int) then (if 0 ≤ x9 then ((catchpitref07_Number.f k (rdOf ByteArray.empty x8 x9)).bind fun bt187 => (if bt187.2 = 2 then (some (0, 2)) else (if bt187.2 = 3 then (if (wrap64 (x7 + x9)) > 0 then (if bt187.1 = x6 then (catchpitref07_Length.l1 k x0 true x5 bt187.1 x7 x8 (wrap64 (x9 + 1))) else (catchpitref07_Length.l1 k x0 true false bt187.1 x7 x8 (wrap64 (x9 + 1)))) else (catchpitref07_Length.l1 k x0 true x5 bt187.1 x7 x8 (wrap64 (x9 + 1)))) else (if (wrap64 (x7 + x9)) > 0 then (if bt187.1 = x6 then (catchpitref07_Length.l1 k x0 x4 x5 bt187.1 x7 x8 (wrap64 (x9 + 1))) else (catchpitref07_Length.l1 k x0 x4 false bt187.1 x7 x8 (wrap64 (x9 + 1)))) else (catchpitref07_Length.l1 k x0 x4 x5 bt187.1 x7 x8 (wrap64 (x9 + 1))))))) else (none)) else (catchpitref07_Length.l0 k x0 x4 x5 x6 (wrap64 (x7 + 1)))
end
def catchpitref07_Length.f (k : Nat) (l0 : List ByteArray) : Option (Int × Int) := if (l0.length : Int) = 0 then (some (0, 7)) else (catchpitref07_Length.l0 k l0 false true 0 0)
theorem catchpitref07_Length.mono_l : ∀ k, (∀ y0 y1 y2 y3 y4, LeO (catchpitref07_Length.l0 k y0 y1 y2 y3 y4) (catchpitref07_Length.l0 (k + 1) y0 y1 y2 y3 y4)) ∧ (∀ y0 y1 y2 y3 y4 y5 y6, LeO (catchpitref07_Length.l1 k y0 y1 y2 y3 y4 y5 y6) (catchpitref07_Length.l1 (k + 1) y0 y1 y2 y3 y4 y5 y6))
  | 0 => ⟨fun _ _ _ _ _ r h => by simp [catchpitref07_Length.l0] at h, fun _ _ _ _ _ _ _ r h => by simp [catchpitref07_Length.l1] at h⟩
  | k + 1 => by
    obtain ⟨ih0, ih1⟩ := catchpitref07_Length.mono_l k
    refine ⟨?_, ?_⟩
    · intro y0 y1 y2 y3 y4
      unfold catchpitref07_Length.l0
      repeat' first
      | (with_reducible exact ih0 _ _ _ _ _)
      | (with_reducible exact ih1 _ _ _ _ _ _ _)
      | (with_reducible exact catchpitref07_Items.mono _ _)
      | (with_reducible exact catchpitref07_Number.mono _ _)
      | (with_reducible exact LeO.refl _)
      | (with_reducible exact LeO.none _)
      | (with_reducible refine LeO.ite ?_ ?_)
      | (with_reducible refine LeO.bind ?_ (fun _ => ?_))
      | exact ih0 _ _ _ _ _
      | exact ih1 _ _ _ _ _ _ _
      | exact catchpitref07_Items.mono _ _
      | exact catchpitref07_Number.mono _ _
      | exact LeO.none _
      | refine LeO.ite ?_ ?_
      | refine LeO.bind ?_ (fun _ => ?_)
    · intro y0 y1 y2 y3 y4 y5 y6
      unfold catchpitref07_Length.l1
      repeat' first
      | (with_reducible exact ih0 _ _ _ _ _)
      | (with_reducible exact ih1 _ _ _ _ _ _ _)
      | (with_reducible exact catchpitref07_Items.mono _ _)
      | (with_reducible exact catchpitref07_Number.mono _ _)
      | (with_reducible exact LeO.refl _)
      | (with_reducible exact LeO.none _)
      | (with_reducible refine LeO.ite ?_ ?_)
      | (with_reducible refine LeO.bind ?_ (fun _ => ?_))
      | exact ih0 _ _ _ _ _
      | exact ih1 _ _ _ _ _ _ _
      | exact catchpitref07_Items.mono _ _
      | exact catchpitref07_Number.mono _ _
      | exact LeO.none _
      | refine LeO.ite ?_ ?_
      | refine LeO.bind ?_ (fun _ => ?_)
theorem catchpitref07_Length.mono : ∀ a0 k, LeO (catchpitref07_Length.f k a0) (catchpitref07_Length.f (k + 1) a0) := by
  intro a0 k
  obtain ⟨ih0, ih1⟩ := catchpitref07_Length.mono_l k
  unfold catchpitref07_Length.f
  repeat' first
      | (with_reducible exact ih0 _ _ _ _ _)
      | (with_reducible exact ih1 _ _ _ _ _ _ _)
      | (with_reducible exact catchpitref07_Items.mono _ _)
      | (with_reducible exact catchpitref07_Number.mono _ _)
      | (with_reducible exact LeO.refl _)
      | (with_reducible exact LeO.none _)
      | (with_reducible refine LeO.ite ?_ ?_)
      | (with_reducible refine LeO.bind ?_ (fun _ => ?_))
      | exact ih0 _ _ _ _ _
      | exact ih1 _ _ _ _ _ _ _
      | exact catchpitref07_Items.mono _ _
      | exact catchpitref07_Number.mono _ _
      | exact LeO.none _
      | refine LeO.ite ?_ ?_
      | refine LeO.bind ?_ (fun _ => ?_)
set_option maxHeartbeats 8000000 in
set_option maxRecDepth 100000 in
theorem catchpitref07_Length.calls (k : Nat) (A0 : Option Addr) (c0 : Nat) (l0 : List ByteArray) (r1 : Int) (r2 : Int) (w : World) (hr0 : Kd.C Kd.string w A0 l0.length l0) (hc0 : l0.length ≤ c0) (hG : TabOk w) (h : catchpitref07_Length.f k l0 = some (r1, r2)) :
    Calls Tryd.prog 28 #[.slice A0 l0.length c0] w fun e w' => e = .returned (.tuple #[.int .u64 r1, .int .i64 r2]) ∧ Below w.heap.size w w' := by
  have HR0 := Aside0.mk hr0
  have HC0 := Aside0.mk hc0
  clear hr0 hc0
  have HB := Aside0.mk (Below.refl w.heap.size w)
  have H : (if (l0.length : Int) = 0 then (some (0, 7)) else (catchpitref07_Length.l0 k l0 false true 0 0)) = some (r1, r2) := h
  clear h
  by_cases c2 : (l0.length : Int) = 0
  · rw [if_pos c2] at H
    have c2b0 : ((l0.length : Int) == 0) = true := beq_iff_eq.mpr c2
    have c2b1 : ((l0.length : Int) != 0) = false := bne_eq_false_iff_eq.mpr c2
    clear c2
    simp only [Option.some.injEq, Prod.mk.injEq] at H
    obtain ⟨rfl, rfl⟩ := H
    go_enter Tryd.func28, Tryd.ntmps28
    go_wp2
    go_ret2
    exact ⟨by first | rfl | (simp [errW_none, errW_some] <;> rfl) | (simp [*, errW_none, errW_some] <;> rfl), by repeat (first | (with_reducible first | exact HB.out | apply below_alloc | apply pw_below_drewN | apply below_drew1) | exact HB.out)⟩
  · rw [if_neg c2] at H
    have c2b0 : ((l0.length : Int) == 0) = false := beq_eq_false_iff_ne.mpr c2
    have c2b1 : ((l0.length : Int) != 0) = true := bne_iff_ne.mpr c2
    have c2b2 : ¬ (l0 = []) := fun h_ => c2 (by rw [h_]; rfl)
    have H' := Aside0.mk H
    clear H
    go_enter Tryd.func28, Tryd.ntmps28
    go_wp2
    go_loopg [4, 5, 6, 7] k (fun kq v4 v5 v6 v7 w' => ∃ (x4_1 : Bool) (x5_1 : Bool) (x6_1 : Int) (x7_1 : Int), v4 = .bool x4_1 ∧ v5 = .bool x5_1 ∧ v6 = .int .u64 x6_1 ∧ v7 = .int .i64 x7_1 ∧ Aside0 (catchpitref07_Length.l0 kq l0 x4_1 x5_1 x6_1 x7_1 = some (r1, r2)) ∧ Aside0 (kq ≤ k) ∧ Aside0 (Below w.heap.size w w'))
    case atStart => exact ⟨(false), (true), (0), (0), (by first | rfl | (simp; done) | (simp [*]; done)), (by first | rfl | (simp; done) | (simp [*]; done)), (by first | rfl | (simp; done) | (simp [*]; done)), (by first | rfl | (simp; done) | (simp [*]; done)), H', ⟨Nat.le_refl _⟩, ⟨by repeat (first | (with_reducible first | exact HB.out | apply below_alloc | apply pw_below_drewN | apply below_drew1) | exact HB.out)⟩⟩
    case round =>
      clear H'
      try clear c2
      try clear c2b0
      try clear c2b1
      try clear c2b2
      try clear p2
      obtain ⟨x4_1, x5_1, x6_1, x7_1, rfl, rfl, rfl, rfl, HA, HK1, HB⟩ := hrel
      cases gk with
      | zero => exact absurd HA.out (by simp [catchpitref07_Length.l0])
      | succ k1 =>
        have H := HA.out
        clear HA
        simp only [catchpitref07_Length.l0] at H
        by_cases c3 : x7_1 < (l0.length : Int)
        · rw [if_pos c3] at H
          have c3b0 : decide (x7_1 < (l0.length : Int)) = true := decide_eq_true c3
          clear c3
          by_cases c4 : 0 ≤ x7_1
          · rw [if_pos c4] at H
            have c4b0 := eq_true c4
            have c4b1 : decide (0 ≤ x7_1) = true := decide_eq_true c4
            clear c4
            by_cases c5 : x7_1 ≤ (wrap64 (x7_1 + 1))
            · rw [if_pos c5] at H
              have c5b0 := eq_true c5
              have c5b1 : decide (x7_1 ≤ (wrap64 (x7_1 + 1))) = true := decide_eq_true c5
              by_cases c6 : (wrap64 (x7_1 + 1)) ≤ (l0.length : Int)
              · rw [if_pos c6] at H
                have c6b0 := eq_true c6
                have c6b1 : decide ((wrap64 (x7_1 + 1)) ≤ (l0.length : Int)) = true := decide_eq_true c6
                replace H := Option.bind_eq_some_iff.mp H
                obtain ⟨t183, A70, H⟩ := H
                replace H : (if (t183.length : Int) = 0 then (some (0, 2)) else (catchpitref07_Length.l1 k1 l0 x4_1 x5_1 x6_1 x7_1 t183 0)) = some (r1, r2) := H
                have A7 := Aside0.mk A70
                clear A70
                by_cases c8 : (t183.length : Int) = 0
                · rw [if_pos c8] at H
                  have c8b0 : ((t183.length : Int) == 0) = true := beq_iff_eq.mpr c8
                  have c8b1 : ((t183.length : Int) != 0) = false := bne_eq_false_iff_eq.mpr c8
                  clear c8
                  simp only [Option.some.injEq, Prod.mk.injEq] at H
                  obtain ⟨rfl, rfl⟩ := H
                  obtain ⟨i09, hi09, _, hsz9, _⟩ := info_parts info9
                  obtain ⟨A9, hcut9, hA9, hC9⟩ := print_mid_of (P := Tryd.prog) Value.string (⟨#[]⟩ : ByteArray) 40 9 .i64 .i64 Tryd.underlying40 hi09 hsz9 A0 c0 l0 x7_1 (wrap64 (x7_1 + 1)) (of_decide_eq_true (by first | (with_reducible assumption) | assumption)) (by first | omega | exact of_decide_eq_true (by first | (with_reducible assumption) | assumption)) (of_decide_eq_true (by first | (with_reducible assumption) | assumption)) HC0.out
                  have HR182 := Aside0.mk (Kd.C_of_reads (h1 := fun _ => rfl) (hA9 _ (Kd.reads_of_C HR0.out)))
                  have HC182 := Aside0.mk hC9
                  clear hA9 hC9 hi09 hsz9
                  go_wp2_with (first | ((with_reducible refine gate_callee (f := 34) rfl ?_); refine goesL_ (some 26) rfl rfl Tryd.func34 (by kernel_rfl) rfl #[.slice A9 ((l0.take ((wrap64 (x7_1 + 1)) : Int).toNat).drop (x7_1 : Int).toNat).length (c0 - x7_1.toNat)] rfl (by (try simp only [List.map_toArray, List.map_cons, List.map_nil]); first | done | (rw [show ((l0.take ((wrap64 (x7_1 + 1)) : Int).toNat).drop (x7_1 : Int).toNat).length = ((wrap64 (x7_1 + 1)).toNat - x7_1.toNat) from (by rw [List.length_drop, List.length_take]; have h_ : ((wrap64 (x7_1 + 1)) : Int) ≤ (l0.length : Int) := of_decide_eq_true (by first | (with_reducible assumption) | assumption); omega)] <;> rfl) | rfl | (simp only [List.length_drop, List.length_take]; rfl)) ?_; (with_reducible refine (catchpitref07_Items.calls k1 _ _ ((l0.take ((wrap64 (x7_1 + 1)) : Int).toNat).drop (x7_1 : Int).toNat) t183 _ ?side1 ?side2 ?side3 A7.out).mono ?_); (case side1 => repeat (first | exact (Kd.C_below HR182.out HB.out) | (with_reducible refine Kd.C_alloc ?_ _) | (with_reducible refine Kd.C_drewN ?_ _) | (with_reducible refine Kd.C_drew ?_))); (case side2 => exact HC182.out); (case side3 => first | exact hG | exact TabOk.drewN hG _ | exact TabOk.drewN (TabOk.drewN hG _) _ | exact TabOk.below hG (by repeat (first | (with_reducible first | exact HB.out | apply below_alloc | apply pw_below_drewN | apply below_drew1) | exact HB.out))); rintro e w10 ⟨v184, rfl, ho0, hb⟩; refine ⟨_, rfl, ?_⟩; have n0_ := Aside0.mk (Kd.R_lower ho0 (below_size (by repeat (first | (with_reducible first | exact HB.out | apply below_alloc | apply pw_below_drewN | apply below_drew1) | exact HB.out)))); have n1_ := Aside0.mk (below_step (by repeat (first | (with_reducible first | exact HB.out | apply below_alloc | apply pw_below_drewN | apply below_drew1) | exact HB.out)) hb); clear HB; have HO185 := n0_; have HB := n1_; clear n0_ n1_; (try clear hb); (try clear hb2); (try clear hk); (try clear hi); (try clear ho0); obtain ⟨Ao11, co11, eo11⟩ := Kd.R_slice HO185.out; subst eo11))
                  go_ret2
                  exact ⟨by first | rfl | (simp [errW_none, errW_some] <;> rfl) | (simp [*, errW_none, errW_some] <;> rfl), by repeat (first | (with_reducible first | exact HB.out | apply below_alloc | apply pw_below_drewN | apply below_drew1) | exact HB.out)⟩
                · rw [if_neg c8] at H
                  have c8b0 : ((t183.length : Int) == 0) = false := beq_eq_false_iff_ne.mpr c8
                  have c8b1 : ((t183.length : Int) != 0) = true := bne_iff_ne.mpr c8
                  have c8b2 : ¬ (t183 = []) := fun h_ => c8 (by rw [h_]; rfl)
                  have H' := Aside0.mk H
                  clear H
                  obtain ⟨i012, hi012, _, hsz12, _⟩ := info_parts info9
                  obtain ⟨A12, hcut12, hA12, hC12⟩ := print_mid_of (P := Tryd.prog) Value.string (⟨#[]⟩ : ByteArray) 40 9 .i64 .i64 Tryd.underlying40 hi012 hsz12 A0 c0 l0 x7_1 (wrap64 (x7_1 + 1)) (of_decide_eq_true (by first | (with_reducible assumption) | assumption)) (by first | omega | exact of_decide_eq_true (by first | (with_reducible assumption) | assumption)) (of_decide_eq_true (by first | (with_reducible assumption) | assumption)) HC0.out
                  have HR182 := Aside0.mk (Kd.C_of_reads (h1 := fun _ => rfl) (hA12 _ (Kd.reads_of_C HR0.out)))
                  have HC182 := Aside0.mk hC12
                  clear hA12 hC12 hi012 hsz12
                  go_wp2_with (first | ((with_reducible refine gate_callee (f := 34) rfl ?_); refine goesL_ (some 26) rfl rfl Tryd.func34 (by kernel_rfl) rfl #[.slice A12 ((l0.take ((wrap64 (x7_1 + 1)) : Int).toNat).drop (x7_1 : Int).toNat).length (c0 - x7_1.toNat)] rfl (by (try simp only [List.map_toArray, List.map_cons, List.map_nil]); first | done | (rw [show ((l0.take ((wrap64 (x7_1 + 1)) : Int).toNat).drop (x7_1 : Int).toNat).length = ((wrap64 (x7_1 + 1)).toNat - x7_1.toNat) from (by rw [List.length_drop, List.length_take]; have h_ : ((wrap64 (x7_1 + 1)) : Int) ≤ (l0.length : Int) := of_decide_eq_true (by first | (with_reducible assumption) | assumption); omega)] <;> rfl) | rfl | (simp only [List.length_drop, List.length_take]; rfl)) ?_; (with_reducible refine (catchpitref07_Items.calls k1 _ _ ((l0.take ((wrap64 (x7_1 + 1)) : Int).toNat).drop (x7_1 : Int).toNat) t183 _ ?side1 ?side2 ?side3 A7.out).mono ?_); (case side1 => repeat (first | exact (Kd.C_below HR182.out HB.out) | (with_reducible refine Kd.C_alloc ?_ _) | (with_reducible refine Kd.C_drewN ?_ _) | (with_reducible refine Kd.C_drew ?_))); (case side2 => exact HC182.out); (case side3 => first | exact hG | exact TabOk.drewN hG _ | exact TabOk.drewN (TabOk.drewN hG _) _ | exact TabOk.below hG (by repeat (first | (with_reducible first | exact HB.out | apply below_alloc | apply pw_below_drewN | apply below_drew1) | exact HB.out))); rintro e w13 ⟨v184, rfl, ho0, hb⟩; refine ⟨_, rfl, ?_⟩; have n0_ := Aside0.mk (Kd.R_lower ho0 (below_size (by repeat (first | (with_reducible first | exact HB.out | apply below_alloc | apply pw_below_drewN | apply below_drew1) | exact HB.out)))); have n1_ := Aside0.mk (below_step (by repeat (first | (with_reducible first | exact HB.out | apply below_alloc | apply pw_below_drewN | apply below_drew1) | exact HB.out)) hb); clear HB; have HO185 := n0_; have HB := n1_; clear n0_ n1_; (try clear hb); (try clear hb2); (try clear hk); (try clear hi); (try clear ho0); obtain ⟨Ao14, co14, eo14⟩ := Kd.R_slice HO185.out; subst eo14))
                  go_loopg [4, 5, 6, 9] k1 (fun kq v4 v5 v6 v9 w' => ∃ (x4_2 : Bool) (x5_2 : Bool) (x6_2 : Int) (x9_2 : Int), v4 = .bool x4_2 ∧ v5 = .bool x5_2 ∧ v6 = .int .u64 x6_2 ∧ v9 = .int .i64 x9_2 ∧ Aside0 (catchpitref07_Length.l1 kq l0 x4_2 x5_2 x6_2 x7_1 t183 x9_2 = some (r1, r2)) ∧ Aside0 (kq ≤ k1) ∧ Aside0 (Kd.R Kd.string 9 w' w.heap.size (fun _ => True) (.slice Ao14 t183.length co14) t183) ∧ Aside0 (Below w.heap.size w w'))
                  case atStart => exact ⟨(x4_1), (x5_1), (x6_1), (0), (by first | rfl | (simp; done) | (simp [*]; done)), (by first | rfl | (simp; done) | (simp [*]; done)), (by first | rfl | (simp; done) | (simp [*]; done)), (by first | rfl | (simp; done) | (simp [*]; done)), H', ⟨Nat.le_refl _⟩, ⟨by (with_reducible repeat (first | apply Kd.R_alloc | apply Kd.R_drewN | apply Kd.R_drew)); exact HO185.out⟩, ⟨by repeat (first | (with_reducible first | exact HB.out | apply below_alloc | apply pw_below_drewN | apply below_drew1) | exact HB.out)⟩⟩
                  case round =>
                    clear H'
                    try clear c2
                    try clear c2b0
                    try clear c2b1
                    try clear c2b2
                    try clear p2
                    try clear c3
                    try clear c3b0
                    try clear c4
                    try clear c4b0
                    try clear c4b1
                    try clear c5
                    try clear c5b0
                    try clear c5b1
                    try clear c6
                    try clear c6b0
                    try clear c6b1
                    try clear p6
                    try clear c8
                    try clear c8b0
                    try clear c8b1
                    try clear c8b2
                    try clear p2
                    obtain ⟨x4_2, x5_2, x6_2, x9_2, rfl, rfl, rfl, rfl, HA, HK2, HO_8, HB⟩ := hrel
                    cases gk with
                    | zero => exact absurd HA.out (by simp [catchpitref07_Length.l1])
                    | succ k2 =>
                      have H := HA.out
                      clear HA
                      simp only [catchpitref07_Length.l1] at H
                      by_cases c15 : x9_2 < (t183.length : Int)
                      · rw [if_pos c15] at H
                        have c15b0 : decide (x9_2 < (t183.length : Int)) = true := decide_eq_true c15
                        clear c15
                        by_cases c16 : 0 ≤ x9_2
                        · rw [if_pos c16] at H
                          have c16b0 : decide (0 ≤ x9_2) = true := decide_eq_true c16
                          clear c16
                          replace H := Option.bind_eq_some_iff.mp H
                          obtain ⟨⟨t187, t188⟩, A170, H⟩ := H
                          replace H : (if t188 = 2 then (some (0, 2)) else (if t188 = 3 then (if (wrap64 (x7_1 + x9_2)) > 0 then (if t187 = x6_2 then (catchpitref07_Length.l1 k2 l0 true x5_2 t187 x7_1 t183 (wrap64 (x9_2 + 1))) else (catchpitref07_Length.l1 k2 l0 true false t187 x7_1 t183 (wrap64 (x9_2 + 1)))) else (catchpitref07_Length.l1 k2 l0 true x5_2 t187 x7_1 t183 (wrap64 (x9_2 + 1)))) else (if (wrap64 (x7_1 + x9_2)) > 0 then (if t187 = x6_2 then (catchpitref07_Length.l1 k2 l0 x4_2 x5_2 t187 x7_1 t183 (wrap64 (x9_2 + 1))) else (catchpitref07_Length.l1 k2 l0 x4_2 false t187 x7_1 t183 (wrap64 (x9_2 + 1)))) else (catchpitref07_Length.l1 k2 l0 x4_2 x5_2 t187 x7_1 t183 (wrap64 (x9_2 + 1)))))) = some (r1, r2) := H
                          have A17 := Aside0.mk A170
                          clear A170
                          by_cases c18 : t188 = 2
                          · rw [if_pos c18] at H
                            have c18b0 : (t188 == 2) = true := beq_iff_eq.mpr c18
                            have c18b1 : (t188 != 2) = false := bne_eq_false_iff_eq.mpr c18
                            clear c18
                            simp only [Option.some.injEq, Prod.mk.injEq] at H
                            obtain ⟨rfl, rfl⟩ := H
                            have p186 : 0 ≤ (x9_2 : Int) := of_decide_eq_true (by first | (with_reducible assumption) | assumption)
                            have q186 : x9_2 < (t183.length : Int) := of_decide_eq_true (by first | (with_reducible assumption) | assumption)
                            obtain ⟨ad186, e186, hx186_0⟩ := Kd.at_string (Kd.R_reads' HO_8.out).2.2 x9_2 p186 q186
                            cases e186
                            replace p186 := eq_true p186
                            replace q186 := eq_true q186
                            go_wp2_with (first | ((with_reducible refine gate_callee (f := 30) rfl ?_); refine goesL_ (some 41) rfl rfl Tryd.func30 (by kernel_rfl) rfl #[.string (rdOf ByteArray.empty t183 x9_2)] rfl (by (try simp only [List.map_toArray, List.map_cons, List.map_nil]); first | done | rfl | (simp only [List.length_drop, List.length_take]; rfl)) ?_; (with_reducible refine (catchpitref07_Number.calls k2 (rdOf ByteArray.empty t183 x9_2) t187 t188 _ ?side1 A17.out).mono ?_); (case side1 => first | exact hG | exact TabOk.drewN hG _ | exact TabOk.drewN (TabOk.drewN hG _) _ | exact TabOk.below hG (by repeat (first | (with_reducible first | exact HB.out | apply below_alloc | apply pw_below_drewN | apply below_drew1) | exact HB.out))); rintro e w' ⟨rfl, ⟨nd, rfl⟩⟩; refine ⟨_, rfl, ?_⟩))
                            go_ret2
                            exact ⟨by first | rfl | (simp [errW_none, errW_some] <;> rfl) | (simp [*, errW_none, errW_some] <;> rfl), by repeat (first | (with_reducible first | exact HB.out | apply below_alloc | apply pw_below_drewN | apply below_drew1) | exact HB.out)⟩
                          · rw [if_neg c18] at H
                            have c18b0 : (t188 == 2) = false := beq_eq_false_iff_ne.mpr c18
                            have c18b1 : (t188 != 2) = true := bne_iff_ne.mpr c18
                            by_cases c19 : t188 = 3
                            · rw [if_pos c19] at H
                              have c19b0 : (t188 == 3) = true := beq_iff_eq.mpr c19
                              have c19b1 : (t188 != 3) = false := bne_eq_false_iff_eq.mpr c19
                              clear c19
                              by_cases c20 : (wrap64 (x7_1 + x9_2)) > 0
                              · rw [if_pos c20] at H
                                have c20b0 : decide (0 < (wrap64 (x7_1 + x9_2))) = true := decide_eq_true c20
                                clear c20
                                by_cases c21 : t187 = x6_2
                                · rw [if_pos c21] at H
                                  have c21b0 : (t187 == x6_2) = true := beq_iff_eq.mpr c21
                                  have c21b1 : (t187 != x6_2) = false := bne_eq_false_iff_eq.mpr c21
                                  clear c21
                                  have H' := Aside0.mk H
                                  clear H
                                  have p186 : 0 ≤ (x9_2 : Int) := of_decide_eq_true (by first | (with_reducible assumption) | assumption)
                                  have q186 : x9_2 < (t183.length : Int) := of_decide_eq_true (by first | (with_reducible assumption) | assumption)
                                  obtain ⟨ad186, e186, hx186_0⟩ := Kd.at_string (Kd.R_reads' HO_8.out).2.2 x9_2 p186 q186
                                  cases e186
                                  replace p186 := eq_true p186
                                  replace q186 := eq_true q186
                                  go_wp2_with (first | ((with_reducible refine gate_callee (f := 30) rfl ?_); refine goesL_ (some 41) rfl rfl Tryd.func30 (by kernel_rfl) rfl #[.string (rdOf ByteArray.empty t183 x9_2)] rfl (by (try simp only [List.map_toArray, List.map_cons, List.map_nil]); first | done | rfl | (simp only [List.length_drop, List.length_take]; rfl)) ?_; (with_reducible refine (catchpitref07_Number.calls k2 (rdOf ByteArray.empty t183 x9_2) t187 t188 _ ?side1 A17.out).mono ?_); (case side1 => first | exact hG | exact TabOk.drewN hG _ | exact TabOk.drewN (TabOk.drewN hG _) _ | exact TabOk.below hG (by repeat (first | (with_reducible first | exact HB.out | apply below_alloc | apply pw_below_drewN | apply below_drew1) | exact HB.out))); rintro e w' ⟨rfl, ⟨nd, rfl⟩⟩; refine ⟨_, rfl, ?_⟩))
                                  go_roundg k2
                                  case measure => have := HK1.out; have := HK2.out; omega
                                  case rel => exact ⟨(true), (x5_2), (t187), (wrap64 (x9_2 + 1)), (by first | rfl | (simp; done) | (simp [*]; done)), (by first | rfl | (simp; done) | (simp [*]; done)), (by first | rfl | (simp; done) | (simp [*]; done)), (by first | rfl | (simp; done) | (simp [*]; done)), H', ⟨by have := HK1.out; have := HK2.out; omega⟩, ⟨by (with_reducible repeat (first | apply Kd.R_alloc | apply Kd.R_drewN | apply Kd.R_drew)); exact HO_8.out⟩, ⟨by repeat (first | (with_reducible first | exact HB.out | apply below_alloc | apply pw_below_drewN | apply below_drew1) | exact HB.out)⟩⟩
                                · rw [if_neg c21] at H
                                  have c21b0 : (t187 == x6_2) = false := beq_eq_false_iff_ne.mpr c21
                                  have c21b1 : (t187 != x6_2) = true := bne_iff_ne.mpr c21
                                  have H' := Aside0.mk H
                                  clear H
                                  have p186 : 0 ≤ (x9_2 : Int) := of_decide_eq_true (by first | (with_reducible assumption) | assumption)
                                  have q186 : x9_2 < (t183.length : Int) := of_decide_eq_true (by first | (with_reducible assumption) | assumption)
                                  obtain ⟨ad186, e186, hx186_0⟩ := Kd.at_string (Kd.R_reads' HO_8.out).2.2 x9_2 p186 q186
                                  cases e186
                                  replace p186 := eq_true p186
                                  replace q186 := eq_true q186
                                  go_wp2_with (first | ((with_reducible refine gate_callee (f := 30) rfl ?_); refine goesL_ (some 41) rfl rfl Tryd.func30 (by kernel_rfl) rfl #[.string (rdOf ByteArray.empty t183 x9_2)] rfl (by (try simp only [List.map_toArray, List.map_cons, List.map_nil]); first | done | rfl | (simp only [List.length_drop, List.length_take]; rfl)) ?_; (with_reducible refine (catchpitref07_Number.calls k2 (rdOf ByteArray.empty t183 x9_2) t187 t188 _ ?side1 A17.out).mono ?_); (case side1 => first | exact hG | exact TabOk.drewN hG _ | exact TabOk.drewN (TabOk.drewN hG _) _ | exact TabOk.below hG (by repeat (first | (with_reducible first | exact HB.out | apply below_alloc | apply pw_below_drewN | apply below_drew1) | exact HB.out))); rintro e w' ⟨rfl, ⟨nd, rfl⟩⟩; refine ⟨_, rfl, ?_⟩))
                                  go_roundg k2
                                  case measure => have := HK1.out; have := HK2.out; omega
                                  case rel => exact ⟨(true), (false), (t187), (wrap64 (x9_2 + 1)), (by first | rfl | (simp; done) | (simp [*]; done)), (by first | rfl | (simp; done) | (simp [*]; done)), (by first | rfl | (simp; done) | (simp [*]; done)), (by first | rfl | (simp; done) | (simp [*]; done)), H', ⟨by have := HK1.out; have := HK2.out; omega⟩, ⟨by (with_reducible repeat (first | apply Kd.R_alloc | apply Kd.R_drewN | apply Kd.R_drew)); exact HO_8.out⟩, ⟨by repeat (first | (with_reducible first | exact HB.out | apply below_alloc | apply pw_below_drewN | apply below_drew1) | exact HB.out)⟩⟩
                              · rw [if_neg c20] at H
                                have c20b0 : decide (0 < (wrap64 (x7_1 + x9_2))) = false := decide_eq_false c20
                                clear c20
                                have H' := Aside0.mk H
                                clear H
                                have p186 : 0 ≤ (x9_2 : Int) := of_decide_eq_true (by first | (with_reducible assumption) | assumption)
                                have q186 : x9_2 < (t183.length : Int) := of_decide_eq_true (by first | (with_reducible assumption) | assumption)
                                obtain ⟨ad186, e186, hx186_0⟩ := Kd.at_string (Kd.R_reads' HO_8.out).2.2 x9_2 p186 q186
                                cases e186
                                replace p186 := eq_true p186
                                replace q186 := eq_true q186
                                go_wp2_with (first | ((with_reducible refine gate_callee (f := 30) rfl ?_); refine goesL_ (some 41) rfl rfl Tryd.func30 (by kernel_rfl) rfl #[.string (rdOf ByteArray.empty t183 x9_2)] rfl (by (try simp only [List.map_toArray, List.map_cons, List.map_nil]); first | done | rfl | (simp only [List.length_drop, List.length_take]; rfl)) ?_; (with_reducible refine (catchpitref07_Number.calls k2 (rdOf ByteArray.empty t183 x9_2) t187 t188 _ ?side1 A17.out).mono ?_); (case side1 => first | exact hG | exact TabOk.drewN hG _ | exact TabOk.drewN (TabOk.drewN hG _) _ | exact TabOk.below hG (by repeat (first | (with_reducible first | exact HB.out | apply below_alloc | apply pw_below_drewN | apply below_drew1) | exact HB.out))); rintro e w' ⟨rfl, ⟨nd, rfl⟩⟩; refine ⟨_, rfl, ?_⟩))
                                go_roundg k2
                                case measure => have := HK1.out; have := HK2.out; omega
                                case rel => exact ⟨(true), (x5_2), (t187), (wrap64 (x9_2 + 1)), (by first | rfl | (simp; done) | (simp [*]; done)), (by first | rfl | (simp; done) | (simp [*]; done)), (by first | rfl | (simp; done) | (simp [*]; done)), (by first | rfl | (simp; done) | (simp [*]; done)), H', ⟨by have := HK1.out; have := HK2.out; omega⟩, ⟨by (with_reducible repeat (first | apply Kd.R_alloc | apply Kd.R_drewN | apply Kd.R_drew)); exact HO_8.out⟩, ⟨by repeat (first | (with_reducible first | exact HB.out | apply below_alloc | apply pw_below_drewN | apply below_drew1) | exact HB.out)⟩⟩
                            · rw [if_neg c19] at H
                              have c19b0 : (t188 == 3) = false := beq_eq_false_iff_ne.mpr c19
                              have c19b1 : (t188 != 3) = true := bne_iff_ne.mpr c19
                              by_cases c22 : (wrap64 (x7_1 + x9_2)) > 0
                              · rw [if_pos c22] at H
                                have c22b0 : decide (0 < (wrap64 (x7_1 + x9_2))) = true := decide_eq_true c22
                                clear c22
                                by_cases c23 : t187 = x6_2
                                · rw [if_pos c23] at H
                                  have c23b0 : (t187 == x6_2) = true := beq_iff_eq.mpr c23
                                  have c23b1 : (t187 != x6_2) = false := bne_eq_false_iff_eq.mpr c23
                                  clear c23
                                  have H' := Aside0.mk H
                                  clear H
                                  have p186 : 0 ≤ (x9_2 : Int) := of_decide_eq_true (by first | (with_reducible assumption) | assumption)
                                  have q186 : x9_2 < (t183.length : Int) := of_decide_eq_true (by first | (with_reducible assumption) | assumption)
                                  obtain ⟨ad186, e186, hx186_0⟩ := Kd.at_string (Kd.R_reads' HO_8.out).2.2 x9_2 p186 q186
                                  cases e186
                                  replace p186 := eq_true p186
                                  replace q186 := eq_true q186
                                  go_wp2_with (first | ((with_reducible refine gate_callee (f := 30) rfl ?_); refine goesL_ (some 41) rfl rfl Tryd.func30 (by kernel_rfl) rfl #[.string (rdOf ByteArray.empty t183 x9_2)] rfl (by (try simp only [List.map_toArray, List.map_cons, List.map_nil]); first | done | rfl | (simp only [List.length_drop, List.length_take]; rfl)) ?_; (with_reducible refine (catchpitref07_Number.calls k2 (rdOf ByteArray.empty t183 x9_2) t187 t188 _ ?side1 A17.out).mono ?_); (case side1 => first | exact hG | exact TabOk.drewN hG _ | exact TabOk.drewN (TabOk.drewN hG _) _ | exact TabOk.below hG (by repeat (first | (with_reducible first | exact HB.out | apply below_alloc | apply pw_below_drewN | apply below_drew1) | exact HB.out))); rintro e w' ⟨rfl, ⟨nd, rfl⟩⟩; refine ⟨_, rfl, ?_⟩))
                                  go_roundg k2
                                  case measure => have := HK1.out; have := HK2.out; omega
                                  case rel => exact ⟨(x4_2), (x5_2), (t187), (wrap64 (x9_2 + 1)), (by first | rfl | (simp; done) | (simp [*]; done)), (by first | rfl | (simp; done) | (simp [*]; done)), (by first | rfl | (simp; done) | (simp [*]; done)), (by first | rfl | (simp; done) | (simp [*]; done)), H', ⟨by have := HK1.out; have := HK2.out; omega⟩, ⟨by (with_reducible repeat (first | apply Kd.R_alloc | apply Kd.R_drewN | apply Kd.R_drew)); exact HO_8.out⟩, ⟨by repeat (first | (with_reducible first | exact HB.out | apply below_alloc | apply pw_below_drewN | apply below_drew1) | exact HB.out)⟩⟩
                                · rw [if_neg c23] at H
                                  have c23b0 : (t187 == x6_2) = false := beq_eq_false_iff_ne.mpr c23
                                  have c23b1 : (t187 != x6_2) = true := bne_iff_ne.mpr c23
                                  have H' := Aside0.mk H
                                  clear H
                                  have p186 : 0 ≤ (x9_2 : Int) := of_decide_eq_true (by first | (with_reducible assumption) | assumption)
                                  have q186 : x9_2 < (t183.length : Int) := of_decide_eq_true (by first | (with_reducible assumption) | assumption)
                                  obtain ⟨ad186, e186, hx186_0⟩ := Kd.at_string (Kd.R_reads' HO_8.out).2.2 x9_2 p186 q186
                                  cases e186
                                  replace p186 := eq_true p186
                                  replace q186 := eq_true q186
                                  go_wp2_with (first | ((with_reducible refine gate_callee (f := 30) rfl ?_); refine goesL_ (some 41) rfl rfl Tryd.func30 (by kernel_rfl) rfl #[.string (rdOf ByteArray.empty t183 x9_2)] rfl (by (try simp only [List.map_toArray, List.map_cons, List.map_nil]); first | done | rfl | (simp only [List.length_drop, List.length_take]; rfl)) ?_; (with_reducible refine (catchpitref07_Number.calls k2 (rdOf ByteArray.empty t183 x9_2) t187 t188 _ ?side1 A17.out).mono ?_); (case side1 => first | exact hG | exact TabOk.drewN hG _ | exact TabOk.drewN (TabOk.drewN hG _) _ | exact TabOk.below hG (by repeat (first | (with_reducible first | exact HB.out | apply below_alloc | apply pw_below_drewN | apply below_drew1) | exact HB.out))); rintro e w' ⟨rfl, ⟨nd, rfl⟩⟩; refine ⟨_, rfl, ?_⟩))
                                  go_roundg k2
                                  case measure => have := HK1.out; have := HK2.out; omega
                                  case rel => exact ⟨(x4_2), (false), (t187), (wrap64 (x9_2 + 1)), (by first | rfl | (simp; done) | (simp [*]; done)), (by first | rfl | (simp; done) | (simp [*]; done)), (by first | rfl | (simp; done) | (simp [*]; done)), (by first | rfl | (simp; done) | (simp [*]; done)), H', ⟨by have := HK1.out; have := HK2.out; omega⟩, ⟨by (with_reducible repeat (first | apply Kd.R_alloc | apply Kd.R_drewN | apply Kd.R_drew)); exact HO_8.out⟩, ⟨by repeat (first | (with_reducible first | exact HB.out | apply below_alloc | apply pw_below_drewN | apply below_drew1) | exact HB.out)⟩⟩
                              · rw [if_neg c22] at H
                                have c22b0 : decide (0 < (wrap64 (x7_1 + x9_2))) = false := decide_eq_false c22
                                clear c22
                                have H' := Aside0.mk H
                                clear H
                                have p186 : 0 ≤ (x9_2 : Int) := of_decide_eq_true (by first | (with_reducible assumption) | assumption)
                                have q186 : x9_2 < (t183.length : Int) := of_decide_eq_true (by first | (with_reducible assumption) | assumption)
                                obtain ⟨ad186, e186, hx186_0⟩ := Kd.at_string (Kd.R_reads' HO_8.out).2.2 x9_2 p186 q186
                                cases e186
                                replace p186 := eq_true p186
                                replace q186 := eq_true q186
                                go_wp2_with (first | ((with_reducible refine gate_callee (f := 30) rfl ?_); refine goesL_ (some 41) rfl rfl Tryd.func30 (by kernel_rfl) rfl #[.string (rdOf ByteArray.empty t183 x9_2)] rfl (by (try simp only [List.map_toArray, List.map_cons, List.map_nil]); first | done | rfl | (simp only [List.length_drop, List.length_take]; rfl)) ?_; (with_reducible refine (catchpitref07_Number.calls k2 (rdOf ByteArray.empty t183 x9_2) t187 t188 _ ?side1 A17.out).mono ?_); (case side1 => first | exact hG | exact TabOk.drewN hG _ | exact TabOk.drewN (TabOk.drewN hG _) _ | exact TabOk.below hG (by repeat (first | (with_reducible first | exact HB.out | apply below_alloc | apply pw_below_drewN | apply below_drew1) | exact HB.out))); rintro e w' ⟨rfl, ⟨nd, rfl⟩⟩; refine ⟨_, rfl, ?_⟩))
                                go_roundg k2
                                case measure => have := HK1.out; have := HK2.out; omega
                                case rel => exact ⟨(x4_2), (x5_2), (t187), (wrap64 (x9_2 + 1)), (by first | rfl | (simp; done) | (simp [*]; done)), (by first | rfl | (simp; done) | (simp [*]; done)), (by first | rfl | (simp; done) | (simp [*]; done)), (by first | rfl | (simp; done) | (simp [*]; done)), H', ⟨by have := HK1.out; have := HK2.out; omega⟩, ⟨by (with_reducible repeat (first | apply Kd.R_alloc | apply Kd.R_drewN | apply Kd.R_drew)); exact HO_8.out⟩, ⟨by repeat (first | (with_reducible first | exact HB.out | apply below_alloc | apply pw_below_drewN | apply below_drew1) | exact HB.out)⟩⟩
                        · rw [if_neg c16] at H
                          exact absurd H (by simp)
                      · rw [if_neg c15] at H
                        have c15b0 : decide (x9_2 < (t183.length : Int)) = false := decide_eq_false c15
                        clear c15
                        have H' := Aside0.mk H
                        clear H
                        go_wp2
                        go_roundg k2
                        case measure => have := HK1.out; have := HK2.out; omega
                        case rel => exact ⟨(x4_2), (x5_2), (x6_2), (wrap64 (x7_1 + 1)), (by first | rfl | (simp; done) | (simp [*]; done)), (by first | rfl | (simp; done) | (simp [*]; done)), (by first | rfl | (simp; done) | (simp [*]; done)), (by first | rfl | (simp; done) | (simp [*]; done)), H', ⟨by have := HK1.out; have := HK2.out; omega⟩, ⟨by repeat (first | (with_reducible first | exact HB.out | apply below_alloc | apply pw_below_drewN | apply below_drew1) | exact HB.out)⟩⟩
              · rw [if_neg c6] at H
                exact absurd H (by simp)
            · rw [if_neg c5] at H
              exact absurd H (by simp)
          · rw [if_neg c4] at H
            exact absurd H (by simp)
        · rw [if_neg c3] at H
          have c3b0 : decide (x7_1 < (l0.length : Int)) = false := decide_eq_false c3
          clear c3
          by_cases c24 : x4_1 = true
          · subst c24
            have H1 : (some (0, 3)) = some (r1, r2) := by rw [if_pos rfl] at H; exact H
            clear H
            have H := H1
            clear H1
            simp only [Option.some.injEq, Prod.mk.injEq] at H
            obtain ⟨rfl, rfl⟩ := H
            go_wp2
            go_ret2
            exact ⟨by first | rfl | (simp [errW_none, errW_some] <;> rfl) | (simp [*, errW_none, errW_some] <;> rfl), by repeat (first | (with_reducible first | exact HB.out | apply below_alloc | apply pw_below_drewN | apply below_drew1) | exact HB.out)⟩
          · replace c24 := Bool.eq_false_iff.mpr c24
            subst c24
            have H1 : (if x5_1 = true then (some (x6_1, 0)) else (some (0, 2))) = some (r1, r2) := by rw [if_neg (show ¬ (false = true) by decide)] at H; exact H
            clear H
            have H := H1
            clear H1
            by_cases c25 : x5_1 = true
            · subst c25
              have H1 : (some (x6_1, 0)) = some (r1, r2) := by rw [if_pos rfl] at H; exact H
              clear H
              have H := H1
              clear H1
              simp only [Option.some.injEq, Prod.mk.injEq] at H
              obtain ⟨rfl, rfl⟩ := H
              go_wp2
              go_ret2
              exact ⟨by first | rfl | (simp [errW_none, errW_some] <;> rfl) | (simp [*, errW_none, errW_some] <;> rfl), by repeat (first | (with_reducible first | exact HB.out | apply below_alloc | apply pw_below_drewN | apply below_drew1) | exact HB.out)⟩
            · replace c25 := Bool.eq_false_iff.mpr c25
              subst c25
              have H1 : (some (0, 2)) = some (r1, r2) := by rw [if_neg (show ¬ (false = true) by decide)] at H; exact H
              clear H
              have H := H1
              clear H1
              simp only [Option.some.injEq, Prod.mk.injEq] at H
              obtain ⟨rfl, rfl⟩ := H
              go_wp2
              go_ret2
              exact ⟨by first | rfl | (simp [errW_none, errW_some] <;> rfl) | (simp [*, errW_none, errW_some] <;> rfl), by repeat (first | (with_reducible first | exact HB.out | apply below_alloc | apply pw_below_drewN | apply below_drew1) | exact HB.out)⟩
def catchpitlaw07_ListLengths.j0 : Nat → List ByteArray → ByteArray → Bool → Option (Bool)
  | 0, _, _, _ => none
  | k + 1, x0, x1, x21 => if x21 = true then (some true) else ((list_Length.f x0).bind fun bt191 => ((catchpitref07_Length.f k x0).bind fun bt193 => ((list_Number.f x1).bind fun bt195 => ((catchpitref07_Number.f k x1).bind fun bt197 => (if bt191.1 = bt193.1 then (if bt191.2 = bt193.2 then (if bt195.1 = bt197.1 then (some (bt195.2 == bt197.2)) else (some false)) else (some false)) else (some false))))))
def catchpitlaw07_ListLengths.f (k : Nat) (l0 : List ByteArray) (a1 : ByteArray) : Option (Bool) := (catchpitlaw07_wakes.f k).bind fun t189 => (if t189 = true then ((catchpitlaw07_long.f k l0).bind fun t190 => (if t190 = true then (catchpitlaw07_ListLengths.j0 k l0 a1 true) else (catchpitlaw07_ListLengths.j0 k l0 a1 (decide ((a1.size : Int) > 500))))) else (some false))
theorem catchpitlaw07_ListLengths.mono_l : ∀ k, (∀ y0 y1 y2, LeO (catchpitlaw07_ListLengths.j0 k y0 y1 y2) (catchpitlaw07_ListLengths.j0 (k + 1) y0 y1 y2))
  | 0 => fun _ _ _ r h => by simp [catchpitlaw07_ListLengths.j0] at h
  | k + 1 => by
    have ih0 := catchpitlaw07_ListLengths.mono_l k
    · intro y0 y1 y2
      unfold catchpitlaw07_ListLengths.j0
      repeat' first
      | (with_reducible exact ih0 _ _ _)
      | (with_reducible exact catchpitlaw07_long.mono _ _)
      | (with_reducible exact catchpitlaw07_wakes.mono _)
      | (with_reducible exact catchpitref07_Length.mono _ _)
      | (with_reducible exact catchpitref07_Number.mono _ _)
      | (with_reducible exact LeO.refl _)
      | (with_reducible exact LeO.none _)
      | (with_reducible refine LeO.ite ?_ ?_)
      | (with_reducible refine LeO.bind ?_ (fun _ => ?_))
      | exact ih0 _ _ _
      | exact catchpitlaw07_long.mono _ _
      | exact catchpitlaw07_wakes.mono _
      | exact catchpitref07_Length.mono _ _
      | exact catchpitref07_Number.mono _ _
      | exact LeO.none _
      | refine LeO.ite ?_ ?_
      | refine LeO.bind ?_ (fun _ => ?_)
theorem catchpitlaw07_ListLengths.mono : ∀ a0 a1 k, LeO (catchpitlaw07_ListLengths.f k a0 a1) (catchpitlaw07_ListLengths.f (k + 1) a0 a1) := by
  intro a0 a1 k
  have ih0 := catchpitlaw07_ListLengths.mono_l k
  unfold catchpitlaw07_ListLengths.f
  repeat' first
      | (with_reducible exact ih0 _ _ _)
      | (with_reducible exact catchpitlaw07_long.mono _ _)
      | (with_reducible exact catchpitlaw07_wakes.mono _)
      | (with_reducible exact catchpitref07_Length.mono _ _)
      | (with_reducible exact catchpitref07_Number.mono _ _)
      | (with_reducible exact LeO.refl _)
      | (with_reducible exact LeO.none _)
      | (with_reducible refine LeO.ite ?_ ?_)
      | (with_reducible refine LeO.bind ?_ (fun _ => ?_))
      | exact ih0 _ _ _
      | exact catchpitlaw07_long.mono _ _
      | exact catchpitlaw07_wakes.mono _
      | exact catchpitref07_Length.mono _ _
      | exact catchpitref07_Number.mono _ _
      | exact LeO.none _
      | refine LeO.ite ?_ ?_
      | refine LeO.bind ?_ (fun _ => ?_)
set_option maxHeartbeats 8000000 in
set_option maxRecDepth 100000 in
theorem catchpitlaw07_ListLengths.calls (k : Nat) (A0 : Option Addr) (c0 : Nat) (l0 : List ByteArray) (a1 : ByteArray) (r : Bool) (w : World) (hr0 : Kd.C Kd.string w A0 l0.length l0) (hc0 : l0.length ≤ c0) (hG : TabOk w) (h : catchpitlaw07_ListLengths.f k l0 a1 = some r) :
    Calls Tryd.prog 8 #[.slice A0 l0.length c0, .string a1] w fun e w' => e = .returned (.bool r) ∧ Below w.heap.size w w' := by
  have HR0 := Aside0.mk hr0
  have HC0 := Aside0.mk hc0
  clear hr0 hc0
  have HB := Aside0.mk (Below.refl w.heap.size w)
  have H : ((catchpitlaw07_wakes.f k).bind fun t189 => (if t189 = true then ((catchpitlaw07_long.f k l0).bind fun t190 => (if t190 = true then (catchpitlaw07_ListLengths.j0 k l0 a1 true) else (catchpitlaw07_ListLengths.j0 k l0 a1 (decide ((a1.size : Int) > 500))))) else (some false))) = some r := h
  clear h
  replace H := Option.bind_eq_some_iff.mp H
  obtain ⟨t189, A30, H⟩ := H
  replace H : (if t189 = true then ((catchpitlaw07_long.f k l0).bind fun t190 => (if t190 = true then (catchpitlaw07_ListLengths.j0 k l0 a1 true) else (catchpitlaw07_ListLengths.j0 k l0 a1 (decide ((a1.size : Int) > 500))))) else (some false)) = some r := H
  have A3 := Aside0.mk A30
  clear A30
  by_cases c4 : t189 = true
  · subst c4
    have H1 : ((catchpitlaw07_long.f k l0).bind fun t190 => (if t190 = true then (catchpitlaw07_ListLengths.j0 k l0 a1 true) else (catchpitlaw07_ListLengths.j0 k l0 a1 (decide ((a1.size : Int) > 500))))) = some r := by rw [if_pos rfl] at H; exact H
    clear H
    have H := H1
    clear H1
    have HC5 := Aside0.mk H
    clear H
    go_enter Tryd.func8, Tryd.ntmps8
    go_upto_region 3 with (first | ((with_reducible refine gate_callee (f := 25) rfl ?_); refine goesL_ (some 13) rfl rfl Tryd.func25 (by kernel_rfl) rfl #[] rfl (by (try simp only [List.map_toArray, List.map_cons, List.map_nil]); first | done | rfl | (simp only [List.length_drop, List.length_take]; rfl)) ?_; (with_reducible refine (catchpitlaw07_wakes.calls k  true _ ?side1 A3.out).mono ?_); (case side1 => first | exact hG | exact TabOk.drewN hG _ | exact TabOk.drewN (TabOk.drewN hG _) _ | exact TabOk.below hG (by repeat (first | (with_reducible first | exact HB.out | apply below_alloc | apply pw_below_drewN | apply below_drew1) | exact HB.out))); rintro e w6 ⟨rfl, hb⟩; refine ⟨_, rfl, ?_⟩; have n0_ := Aside0.mk (below_step (by repeat (first | (with_reducible first | exact HB.out | apply below_alloc | apply pw_below_drewN | apply below_drew1) | exact HB.out)) hb); clear HB; have HB := n0_; clear n0_; (try clear hb); (try clear hb2); (try clear hk); (try clear hi)))
    (try simp only [Act.put, List.setIfInBounds_toArray, List.set_cons_zero, List.set_cons_succ])
    go_cut [21] (fun v21 wc => ∃ (kq : Nat) (x21_4 : Bool), v21 = .bool x21_4 ∧ Aside0 (catchpitlaw07_ListLengths.j0 kq l0 a1 x21_4 = some r) ∧ Aside0 (kq ≤ k) ∧ Aside0 (Below w.heap.size w wc))
    case first =>
      have H := HC5.out
      clear HC5
      replace H := Option.bind_eq_some_iff.mp H
      obtain ⟨t190, A70, H⟩ := H
      replace H : (if t190 = true then (catchpitlaw07_ListLengths.j0 k l0 a1 true) else (catchpitlaw07_ListLengths.j0 k l0 a1 (decide ((a1.size : Int) > 500)))) = some r := H
      have A7 := Aside0.mk A70
      clear A70
      by_cases c8 : t190 = true
      · subst c8
        have H1 : (catchpitlaw07_ListLengths.j0 k l0 a1 true) = some r := by rw [if_pos rfl] at H; exact H
        clear H
        have H := H1
        clear H1
        have H' := Aside0.mk H
        clear H
        go_wp2_with (first | ((with_reducible refine gate_callee (f := 26) rfl ?_); refine goesL_ (some 16) rfl rfl Tryd.func26 (by kernel_rfl) rfl #[.slice A0 l0.length c0] rfl (by (try simp only [List.map_toArray, List.map_cons, List.map_nil]); first | done | rfl | (simp only [List.length_drop, List.length_take]; rfl)) ?_; (with_reducible refine (catchpitlaw07_long.calls k _ _ l0 true _ ?side1 ?side2 ?side3 A7.out).mono ?_); (case side1 => repeat (first | exact (Kd.C_below HR0.out HB.out) | (with_reducible refine Kd.C_alloc ?_ _) | (with_reducible refine Kd.C_drewN ?_ _) | (with_reducible refine Kd.C_drew ?_))); (case side2 => exact HC0.out); (case side3 => first | exact hG | exact TabOk.drewN hG _ | exact TabOk.drewN (TabOk.drewN hG _) _ | exact TabOk.below hG (by repeat (first | (with_reducible first | exact HB.out | apply below_alloc | apply pw_below_drewN | apply below_drew1) | exact HB.out))); rintro e w' ⟨rfl, ⟨nd, rfl⟩⟩; refine ⟨_, rfl, ?_⟩))
        go_meet
        case rel => exact ⟨_, (true), (by first | rfl | (simp; done) | (simp [*]; done)), H', ⟨by first | omega | exact Nat.le_refl _⟩, ⟨by repeat (first | (with_reducible first | exact HB.out | apply below_alloc | apply pw_below_drewN | apply below_drew1) | exact HB.out)⟩⟩
      · replace c8 := Bool.eq_false_iff.mpr c8
        subst c8
        have H1 : (catchpitlaw07_ListLengths.j0 k l0 a1 (decide ((a1.size : Int) > 500))) = some r := by rw [if_neg (show ¬ (false = true) by decide)] at H; exact H
        clear H
        have H := H1
        clear H1
        have H' := Aside0.mk H
        clear H
        go_wp2_with (first | ((with_reducible refine gate_callee (f := 26) rfl ?_); refine goesL_ (some 16) rfl rfl Tryd.func26 (by kernel_rfl) rfl #[.slice A0 l0.length c0] rfl (by (try simp only [List.map_toArray, List.map_cons, List.map_nil]); first | done | rfl | (simp only [List.length_drop, List.length_take]; rfl)) ?_; (with_reducible refine (catchpitlaw07_long.calls k _ _ l0 false _ ?side1 ?side2 ?side3 A7.out).mono ?_); (case side1 => repeat (first | exact (Kd.C_below HR0.out HB.out) | (with_reducible refine Kd.C_alloc ?_ _) | (with_reducible refine Kd.C_drewN ?_ _) | (with_reducible refine Kd.C_drew ?_))); (case side2 => exact HC0.out); (case side3 => first | exact hG | exact TabOk.drewN hG _ | exact TabOk.drewN (TabOk.drewN hG _) _ | exact TabOk.below hG (by repeat (first | (with_reducible first | exact HB.out | apply below_alloc | apply pw_below_drewN | apply below_drew1) | exact HB.out))); rintro e w' ⟨rfl, ⟨nd, rfl⟩⟩; refine ⟨_, rfl, ?_⟩))
        go_meet
        case rel => exact ⟨_, (decide ((a1.size : Int) > 500)), (by first | rfl | (simp; done) | (simp [*]; done)), H', ⟨by first | omega | exact Nat.le_refl _⟩, ⟨by repeat (first | (with_reducible first | exact HB.out | apply below_alloc | apply pw_below_drewN | apply below_drew1) | exact HB.out)⟩⟩
    case rest =>
      clear HC5
      try clear c2
      try clear p2
      try clear c4
      try clear c8
      obtain ⟨kq, x21_4, rfl, HA, HJ4, HB⟩ := hcut
      cases kq with
      | zero => exact absurd HA.out (by simp [catchpitlaw07_ListLengths.j0])
      | succ kj4 =>
        have H := HA.out
        clear HA
        simp only [catchpitlaw07_ListLengths.j0] at H
        by_cases c9 : x21_4 = true
        · subst c9
          have H1 : (some true) = some r := by rw [if_pos rfl] at H; exact H
          clear H
          have H := H1
          clear H1
          obtain rfl := Option.some.inj H
          go_wp2
          go_ret
          exact ⟨by first | rfl | (simp [errW_none, errW_some] <;> rfl) | (simp [*, errW_none, errW_some] <;> rfl), by repeat (first | (with_reducible first | exact HB.out | apply below_alloc | apply pw_below_drewN | apply below_drew1) | exact HB.out)⟩
        · replace c9 := Bool.eq_false_iff.mpr c9
          subst c9
          have H1 : ((list_Length.f l0).bind fun bt191 => ((catchpitref07_Length.f kj4 l0).bind fun bt193 => ((list_Number.f a1).bind fun bt195 => ((catchpitref07_Number.f kj4 a1).bind fun bt197 => (if bt191.1 = bt193.1 then (if bt191.2 = bt193.2 then (if bt195.1 = bt197.1 then (some (bt195.2 == bt197.2)) else (some false)) else (some false)) else (some false)))))) = some r := by rw [if_neg (show ¬ (false = true) by decide)] at H; exact H
          clear H
          have H := H1
          clear H1
          replace H := Option.bind_eq_some_iff.mp H
          obtain ⟨⟨t191, t192⟩, A100, H⟩ := H
          replace H : ((catchpitref07_Length.f kj4 l0).bind fun bt193 => ((list_Number.f a1).bind fun bt195 => ((catchpitref07_Number.f kj4 a1).bind fun bt197 => (if t191 = bt193.1 then (if t192 = bt193.2 then (if bt195.1 = bt197.1 then (some (bt195.2 == bt197.2)) else (some false)) else (some false)) else (some false))))) = some r := H
          have A10 := Aside0.mk A100
          clear A100
          replace H := Option.bind_eq_some_iff.mp H
          obtain ⟨⟨t193, t194⟩, A110, H⟩ := H
          replace H : ((list_Number.f a1).bind fun bt195 => ((catchpitref07_Number.f kj4 a1).bind fun bt197 => (if t191 = t193 then (if t192 = t194 then (if bt195.1 = bt197.1 then (some (bt195.2 == bt197.2)) else (some false)) else (some false)) else (some false)))) = some r := H
          have A11 := Aside0.mk A110
          clear A110
          replace H := Option.bind_eq_some_iff.mp H
          obtain ⟨⟨t195, t196⟩, A120, H⟩ := H
          replace H : ((catchpitref07_Number.f kj4 a1).bind fun bt197 => (if t191 = t193 then (if t192 = t194 then (if t195 = bt197.1 then (some (t196 == bt197.2)) else (some false)) else (some false)) else (some false))) = some r := H
          have A12 := Aside0.mk A120
          clear A120
          replace H := Option.bind_eq_some_iff.mp H
          obtain ⟨⟨t197, t198⟩, A130, H⟩ := H
          replace H : (if t191 = t193 then (if t192 = t194 then (if t195 = t197 then (some (t196 == t198)) else (some false)) else (some false)) else (some false)) = some r := H
          have A13 := Aside0.mk A130
          clear A130
          by_cases c14 : t191 = t193
          · rw [if_pos c14] at H
            have c14b0 : (t191 == t193) = true := beq_iff_eq.mpr c14
            have c14b1 : (t191 != t193) = false := bne_eq_false_iff_eq.mpr c14
            clear c14
            by_cases c15 : t192 = t194
            · rw [if_pos c15] at H
              have c15b0 : (t192 == t194) = true := beq_iff_eq.mpr c15
              have c15b1 : (t192 != t194) = false := bne_eq_false_iff_eq.mpr c15
              clear c15
              by_cases c16 : t195 = t197
              · rw [if_pos c16] at H
                have c16b0 : (t195 == t197) = true := beq_iff_eq.mpr c16
                have c16b1 : (t195 != t197) = false := bne_eq_false_iff_eq.mpr c16
                clear c16
                obtain rfl := Option.some.inj H
                go_wp2_with (first | ((with_reducible refine gate_callee (f := 27) rfl ?_); refine goesL_ (some 24) rfl rfl Tryd.func27 (by kernel_rfl) rfl #[.slice A0 l0.length c0] rfl (by (try simp only [List.map_toArray, List.map_cons, List.map_nil]); first | done | rfl | (simp only [List.length_drop, List.length_take]; rfl)) ?_; (with_reducible refine (list_Length.calls _ _ l0 t191 t192 _ ?side1 ?side2 ?side3 A10.out).mono ?_); (case side1 => repeat (first | exact (Kd.C_below HR0.out HB.out) | (with_reducible refine Kd.C_alloc ?_ _) | (with_reducible refine Kd.C_drewN ?_ _) | (with_reducible refine Kd.C_drew ?_))); (case side2 => exact HC0.out); (case side3 => first | exact hG | exact TabOk.drewN hG _ | exact TabOk.drewN (TabOk.drewN hG _) _ | exact TabOk.below hG (by repeat (first | (with_reducible first | exact HB.out | apply below_alloc | apply pw_below_drewN | apply below_drew1) | exact HB.out))); rintro e w17 ⟨rfl, hb⟩; refine ⟨_, rfl, ?_⟩; have n0_ := Aside0.mk (below_step (by repeat (first | (with_reducible first | exact HB.out | apply below_alloc | apply pw_below_drewN | apply below_drew1) | exact HB.out)) hb); clear HB; have HB := n0_; clear n0_; (try clear hb); (try clear hb2); (try clear hk); (try clear hi)) | ((with_reducible refine gate_callee (f := 28) rfl ?_); refine goesL_ (some 29) rfl rfl Tryd.func28 (by kernel_rfl) rfl #[.slice A0 l0.length c0] rfl (by (try simp only [List.map_toArray, List.map_cons, List.map_nil]); first | done | rfl | (simp only [List.length_drop, List.length_take]; rfl)) ?_; (with_reducible refine (catchpitref07_Length.calls kj4 _ _ l0 t193 t194 _ ?side1 ?side2 ?side3 A11.out).mono ?_); (case side1 => repeat (first | exact (Kd.C_below HR0.out HB.out) | (with_reducible refine Kd.C_alloc ?_ _) | (with_reducible refine Kd.C_drewN ?_ _) | (with_reducible refine Kd.C_drew ?_))); (case side2 => exact HC0.out); (case side3 => first | exact hG | exact TabOk.drewN hG _ | exact TabOk.drewN (TabOk.drewN hG _) _ | exact TabOk.below hG (by repeat (first | (with_reducible first | exact HB.out | apply below_alloc | apply pw_below_drewN | apply below_drew1) | exact HB.out))); rintro e w18 ⟨rfl, hb⟩; refine ⟨_, rfl, ?_⟩; have n0_ := Aside0.mk (below_step (by repeat (first | (with_reducible first | exact HB.out | apply below_alloc | apply pw_below_drewN | apply below_drew1) | exact HB.out)) hb); clear HB; have HB := n0_; clear n0_; (try clear hb); (try clear hb2); (try clear hk); (try clear hi)) | ((with_reducible refine gate_callee (f := 29) rfl ?_); refine goesL_ (some 34) rfl rfl Tryd.func29 (by kernel_rfl) rfl #[.string a1] rfl (by (try simp only [List.map_toArray, List.map_cons, List.map_nil]); first | done | rfl | (simp only [List.length_drop, List.length_take]; rfl)) ?_; (with_reducible refine (list_Number.calls a1 t195 t196 _ ?side1 A12.out).mono ?_); (case side1 => first | exact hG | exact TabOk.drewN hG _ | exact TabOk.drewN (TabOk.drewN hG _) _ | exact TabOk.below hG (by repeat (first | (with_reducible first | exact HB.out | apply below_alloc | apply pw_below_drewN | apply below_drew1) | exact HB.out))); rintro e w19 ⟨rfl, hb⟩; refine ⟨_, rfl, ?_⟩; have n0_ := Aside0.mk (below_step (by repeat (first | (with_reducible first | exact HB.out | apply below_alloc | apply pw_below_drewN | apply below_drew1) | exact HB.out)) hb); clear HB; have HB := n0_; clear n0_; (try clear hb); (try clear hb2); (try clear hk); (try clear hi)) | ((with_reducible refine gate_callee (f := 30) rfl ?_); refine goesL_ (some 39) rfl rfl Tryd.func30 (by kernel_rfl) rfl #[.string a1] rfl (by (try simp only [List.map_toArray, List.map_cons, List.map_nil]); first | done | rfl | (simp only [List.length_drop, List.length_take]; rfl)) ?_; (with_reducible refine (catchpitref07_Number.calls kj4 a1 t197 t198 _ ?side1 A13.out).mono ?_); (case side1 => first | exact hG | exact TabOk.drewN hG _ | exact TabOk.drewN (TabOk.drewN hG _) _ | exact TabOk.below hG (by repeat (first | (with_reducible first | exact HB.out | apply below_alloc | apply pw_below_drewN | apply below_drew1) | exact HB.out))); rintro e w' ⟨rfl, ⟨nd, rfl⟩⟩; refine ⟨_, rfl, ?_⟩))
                go_ret
                exact ⟨by first | rfl | (simp [errW_none, errW_some] <;> rfl) | (simp [*, errW_none, errW_some] <;> rfl), by repeat (first | (with_reducible first | exact HB.out | apply below_alloc | apply pw_below_drewN | apply below_drew1) | exact HB.out)⟩
              · rw [if_neg c16] at H
                have c16b0 : (t195 == t197) = false := beq_eq_false_iff_ne.mpr c16
                have c16b1 : (t195 != t197) = true := bne_iff_ne.mpr c16
                obtain rfl := Option.some.inj H
                go_wp2_with (first | ((with_reducible refine gate_callee (f := 27) rfl ?_); refine goesL_ (some 24) rfl rfl Tryd.func27 (by kernel_rfl) rfl #[.slice A0 l0.length c0] rfl (by (try simp only [List.map_toArray, List.map_cons, List.map_nil]); first | done | rfl | (simp only [List.length_drop, List.length_take]; rfl)) ?_; (with_reducible refine (list_Length.calls _ _ l0 t191 t192 _ ?side1 ?side2 ?side3 A10.out).mono ?_); (case side1 => repeat (first | exact (Kd.C_below HR0.out HB.out) | (with_reducible refine Kd.C_alloc ?_ _) | (with_reducible refine Kd.C_drewN ?_ _) | (with_reducible refine Kd.C_drew ?_))); (case side2 => exact HC0.out); (case side3 => first | exact hG | exact TabOk.drewN hG _ | exact TabOk.drewN (TabOk.drewN hG _) _ | exact TabOk.below hG (by repeat (first | (with_reducible first | exact HB.out | apply below_alloc | apply pw_below_drewN | apply below_drew1) | exact HB.out))); rintro e w20 ⟨rfl, hb⟩; refine ⟨_, rfl, ?_⟩; have n0_ := Aside0.mk (below_step (by repeat (first | (with_reducible first | exact HB.out | apply below_alloc | apply pw_below_drewN | apply below_drew1) | exact HB.out)) hb); clear HB; have HB := n0_; clear n0_; (try clear hb); (try clear hb2); (try clear hk); (try clear hi)) | ((with_reducible refine gate_callee (f := 28) rfl ?_); refine goesL_ (some 29) rfl rfl Tryd.func28 (by kernel_rfl) rfl #[.slice A0 l0.length c0] rfl (by (try simp only [List.map_toArray, List.map_cons, List.map_nil]); first | done | rfl | (simp only [List.length_drop, List.length_take]; rfl)) ?_; (with_reducible refine (catchpitref07_Length.calls kj4 _ _ l0 t193 t194 _ ?side1 ?side2 ?side3 A11.out).mono ?_); (case side1 => repeat (first | exact (Kd.C_below HR0.out HB.out) | (with_reducible refine Kd.C_alloc ?_ _) | (with_reducible refine Kd.C_drewN ?_ _) | (with_reducible refine Kd.C_drew ?_))); (case side2 => exact HC0.out); (case side3 => first | exact hG | exact TabOk.drewN hG _ | exact TabOk.drewN (TabOk.drewN hG _) _ | exact TabOk.below hG (by repeat (first | (with_reducible first | exact HB.out | apply below_alloc | apply pw_below_drewN | apply below_drew1) | exact HB.out))); rintro e w21 ⟨rfl, hb⟩; refine ⟨_, rfl, ?_⟩; have n0_ := Aside0.mk (below_step (by repeat (first | (with_reducible first | exact HB.out | apply below_alloc | apply pw_below_drewN | apply below_drew1) | exact HB.out)) hb); clear HB; have HB := n0_; clear n0_; (try clear hb); (try clear hb2); (try clear hk); (try clear hi)) | ((with_reducible refine gate_callee (f := 29) rfl ?_); refine goesL_ (some 34) rfl rfl Tryd.func29 (by kernel_rfl) rfl #[.string a1] rfl (by (try simp only [List.map_toArray, List.map_cons, List.map_nil]); first | done | rfl | (simp only [List.length_drop, List.length_take]; rfl)) ?_; (with_reducible refine (list_Number.calls a1 t195 t196 _ ?side1 A12.out).mono ?_); (case side1 => first | exact hG | exact TabOk.drewN hG _ | exact TabOk.drewN (TabOk.drewN hG _) _ | exact TabOk.below hG (by repeat (first | (with_reducible first | exact HB.out | apply below_alloc | apply pw_below_drewN | apply below_drew1) | exact HB.out))); rintro e w22 ⟨rfl, hb⟩; refine ⟨_, rfl, ?_⟩; have n0_ := Aside0.mk (below_step (by repeat (first | (with_reducible first | exact HB.out | apply below_alloc | apply pw_below_drewN | apply below_drew1) | exact HB.out)) hb); clear HB; have HB := n0_; clear n0_; (try clear hb); (try clear hb2); (try clear hk); (try clear hi)) | ((with_reducible refine gate_callee (f := 30) rfl ?_); refine goesL_ (some 39) rfl rfl Tryd.func30 (by kernel_rfl) rfl #[.string a1] rfl (by (try simp only [List.map_toArray, List.map_cons, List.map_nil]); first | done | rfl | (simp only [List.length_drop, List.length_take]; rfl)) ?_; (with_reducible refine (catchpitref07_Number.calls kj4 a1 t197 t198 _ ?side1 A13.out).mono ?_); (case side1 => first | exact hG | exact TabOk.drewN hG _ | exact TabOk.drewN (TabOk.drewN hG _) _ | exact TabOk.below hG (by repeat (first | (with_reducible first | exact HB.out | apply below_alloc | apply pw_below_drewN | apply below_drew1) | exact HB.out))); rintro e w' ⟨rfl, ⟨nd, rfl⟩⟩; refine ⟨_, rfl, ?_⟩))
                go_ret
                exact ⟨by first | rfl | (simp [errW_none, errW_some] <;> rfl) | (simp [*, errW_none, errW_some] <;> rfl), by repeat (first | (with_reducible first | exact HB.out | apply below_alloc | apply pw_below_drewN | apply below_drew1) | exact HB.out)⟩
            · rw [if_neg c15] at H
              have c15b0 : (t192 == t194) = false := beq_eq_false_iff_ne.mpr c15
              have c15b1 : (t192 != t194) = true := bne_iff_ne.mpr c15
              obtain rfl := Option.some.inj H
              go_wp2_with (first | ((with_reducible refine gate_callee (f := 27) rfl ?_); refine goesL_ (some 24) rfl rfl Tryd.func27 (by kernel_rfl) rfl #[.slice A0 l0.length c0] rfl (by (try simp only [List.map_toArray, List.map_cons, List.map_nil]); first | done | rfl | (simp only [List.length_drop, List.length_take]; rfl)) ?_; (with_reducible refine (list_Length.calls _ _ l0 t191 t192 _ ?side1 ?side2 ?side3 A10.out).mono ?_); (case side1 => repeat (first | exact (Kd.C_below HR0.out HB.out) | (with_reducible refine Kd.C_alloc ?_ _) | (with_reducible refine Kd.C_drewN ?_ _) | (with_reducible refine Kd.C_drew ?_))); (case side2 => exact HC0.out); (case side3 => first | exact hG | exact TabOk.drewN hG _ | exact TabOk.drewN (TabOk.drewN hG _) _ | exact TabOk.below hG (by repeat (first | (with_reducible first | exact HB.out | apply below_alloc | apply pw_below_drewN | apply below_drew1) | exact HB.out))); rintro e w23 ⟨rfl, hb⟩; refine ⟨_, rfl, ?_⟩; have n0_ := Aside0.mk (below_step (by repeat (first | (with_reducible first | exact HB.out | apply below_alloc | apply pw_below_drewN | apply below_drew1) | exact HB.out)) hb); clear HB; have HB := n0_; clear n0_; (try clear hb); (try clear hb2); (try clear hk); (try clear hi)) | ((with_reducible refine gate_callee (f := 28) rfl ?_); refine goesL_ (some 29) rfl rfl Tryd.func28 (by kernel_rfl) rfl #[.slice A0 l0.length c0] rfl (by (try simp only [List.map_toArray, List.map_cons, List.map_nil]); first | done | rfl | (simp only [List.length_drop, List.length_take]; rfl)) ?_; (with_reducible refine (catchpitref07_Length.calls kj4 _ _ l0 t193 t194 _ ?side1 ?side2 ?side3 A11.out).mono ?_); (case side1 => repeat (first | exact (Kd.C_below HR0.out HB.out) | (with_reducible refine Kd.C_alloc ?_ _) | (with_reducible refine Kd.C_drewN ?_ _) | (with_reducible refine Kd.C_drew ?_))); (case side2 => exact HC0.out); (case side3 => first | exact hG | exact TabOk.drewN hG _ | exact TabOk.drewN (TabOk.drewN hG _) _ | exact TabOk.below hG (by repeat (first | (with_reducible first | exact HB.out | apply below_alloc | apply pw_below_drewN | apply below_drew1) | exact HB.out))); rintro e w24 ⟨rfl, hb⟩; refine ⟨_, rfl, ?_⟩; have n0_ := Aside0.mk (below_step (by repeat (first | (with_reducible first | exact HB.out | apply below_alloc | apply pw_below_drewN | apply below_drew1) | exact HB.out)) hb); clear HB; have HB := n0_; clear n0_; (try clear hb); (try clear hb2); (try clear hk); (try clear hi)) | ((with_reducible refine gate_callee (f := 29) rfl ?_); refine goesL_ (some 34) rfl rfl Tryd.func29 (by kernel_rfl) rfl #[.string a1] rfl (by (try simp only [List.map_toArray, List.map_cons, List.map_nil]); first | done | rfl | (simp only [List.length_drop, List.length_take]; rfl)) ?_; (with_reducible refine (list_Number.calls a1 t195 t196 _ ?side1 A12.out).mono ?_); (case side1 => first | exact hG | exact TabOk.drewN hG _ | exact TabOk.drewN (TabOk.drewN hG _) _ | exact TabOk.below hG (by repeat (first | (with_reducible first | exact HB.out | apply below_alloc | apply pw_below_drewN | apply below_drew1) | exact HB.out))); rintro e w25 ⟨rfl, hb⟩; refine ⟨_, rfl, ?_⟩; have n0_ := Aside0.mk (below_step (by repeat (first | (with_reducible first | exact HB.out | apply below_alloc | apply pw_below_drewN | apply below_drew1) | exact HB.out)) hb); clear HB; have HB := n0_; clear n0_; (try clear hb); (try clear hb2); (try clear hk); (try clear hi)) | ((with_reducible refine gate_callee (f := 30) rfl ?_); refine goesL_ (some 39) rfl rfl Tryd.func30 (by kernel_rfl) rfl #[.string a1] rfl (by (try simp only [List.map_toArray, List.map_cons, List.map_nil]); first | done | rfl | (simp only [List.length_drop, List.length_take]; rfl)) ?_; (with_reducible refine (catchpitref07_Number.calls kj4 a1 t197 t198 _ ?side1 A13.out).mono ?_); (case side1 => first | exact hG | exact TabOk.drewN hG _ | exact TabOk.drewN (TabOk.drewN hG _) _ | exact TabOk.below hG (by repeat (first | (with_reducible first | exact HB.out | apply below_alloc | apply pw_below_drewN | apply below_drew1) | exact HB.out))); rintro e w' ⟨rfl, ⟨nd, rfl⟩⟩; refine ⟨_, rfl, ?_⟩))
              go_ret
              exact ⟨by first | rfl | (simp [errW_none, errW_some] <;> rfl) | (simp [*, errW_none, errW_some] <;> rfl), by repeat (first | (with_reducible first | exact HB.out | apply below_alloc | apply pw_below_drewN | apply below_drew1) | exact HB.out)⟩
          · rw [if_neg c14] at H
            have c14b0 : (t191 == t193) = false := beq_eq_false_iff_ne.mpr c14
            have c14b1 : (t191 != t193) = true := bne_iff_ne.mpr c14
            obtain rfl := Option.some.inj H
            go_wp2_with (first | ((with_reducible refine gate_callee (f := 27) rfl ?_); refine goesL_ (some 24) rfl rfl Tryd.func27 (by kernel_rfl) rfl #[.slice A0 l0.length c0] rfl (by (try simp only [List.map_toArray, List.map_cons, List.map_nil]); first | done | rfl | (simp only [List.length_drop, List.length_take]; rfl)) ?_; (with_reducible refine (list_Length.calls _ _ l0 t191 t192 _ ?side1 ?side2 ?side3 A10.out).mono ?_); (case side1 => repeat (first | exact (Kd.C_below HR0.out HB.out) | (with_reducible refine Kd.C_alloc ?_ _) | (with_reducible refine Kd.C_drewN ?_ _) | (with_reducible refine Kd.C_drew ?_))); (case side2 => exact HC0.out); (case side3 => first | exact hG | exact TabOk.drewN hG _ | exact TabOk.drewN (TabOk.drewN hG _) _ | exact TabOk.below hG (by repeat (first | (with_reducible first | exact HB.out | apply below_alloc | apply pw_below_drewN | apply below_drew1) | exact HB.out))); rintro e w26 ⟨rfl, hb⟩; refine ⟨_, rfl, ?_⟩; have n0_ := Aside0.mk (below_step (by repeat (first | (with_reducible first | exact HB.out | apply below_alloc | apply pw_below_drewN | apply below_drew1) | exact HB.out)) hb); clear HB; have HB := n0_; clear n0_; (try clear hb); (try clear hb2); (try clear hk); (try clear hi)) | ((with_reducible refine gate_callee (f := 28) rfl ?_); refine goesL_ (some 29) rfl rfl Tryd.func28 (by kernel_rfl) rfl #[.slice A0 l0.length c0] rfl (by (try simp only [List.map_toArray, List.map_cons, List.map_nil]); first | done | rfl | (simp only [List.length_drop, List.length_take]; rfl)) ?_; (with_reducible refine (catchpitref07_Length.calls kj4 _ _ l0 t193 t194 _ ?side1 ?side2 ?side3 A11.out).mono ?_); (case side1 => repeat (first | exact (Kd.C_below HR0.out HB.out) | (with_reducible refine Kd.C_alloc ?_ _) | (with_reducible refine Kd.C_drewN ?_ _) | (with_reducible refine Kd.C_drew ?_))); (case side2 => exact HC0.out); (case side3 => first | exact hG | exact TabOk.drewN hG _ | exact TabOk.drewN (TabOk.drewN hG _) _ | exact TabOk.below hG (by repeat (first | (with_reducible first | exact HB.out | apply below_alloc | apply pw_below_drewN | apply below_drew1) | exact HB.out))); rintro e w27 ⟨rfl, hb⟩; refine ⟨_, rfl, ?_⟩; have n0_ := Aside0.mk (below_step (by repeat (first | (with_reducible first | exact HB.out | apply below_alloc | apply pw_below_drewN | apply below_drew1) | exact HB.out)) hb); clear HB; have HB := n0_; clear n0_; (try clear hb); (try clear hb2); (try clear hk); (try clear hi)) | ((with_reducible refine gate_callee (f := 29) rfl ?_); refine goesL_ (some 34) rfl rfl Tryd.func29 (by kernel_rfl) rfl #[.string a1] rfl (by (try simp only [List.map_toArray, List.map_cons, List.map_nil]); first | done | rfl | (simp only [List.length_drop, List.length_take]; rfl)) ?_; (with_reducible refine (list_Number.calls a1 t195 t196 _ ?side1 A12.out).mono ?_); (case side1 => first | exact hG | exact TabOk.drewN hG _ | exact TabOk.drewN (TabOk.drewN hG _) _ | exact TabOk.below hG (by repeat (first | (with_reducible first | exact HB.out | apply below_alloc | apply pw_below_drewN | apply below_drew1) | exact HB.out))); rintro e w28 ⟨rfl, hb⟩; refine ⟨_, rfl, ?_⟩; have n0_ := Aside0.mk (below_step (by repeat (first | (with_reducible first | exact HB.out | apply below_alloc | apply pw_below_drewN | apply below_drew1) | exact HB.out)) hb); clear HB; have HB := n0_; clear n0_; (try clear hb); (try clear hb2); (try clear hk); (try clear hi)) | ((with_reducible refine gate_callee (f := 30) rfl ?_); refine goesL_ (some 39) rfl rfl Tryd.func30 (by kernel_rfl) rfl #[.string a1] rfl (by (try simp only [List.map_toArray, List.map_cons, List.map_nil]); first | done | rfl | (simp only [List.length_drop, List.length_take]; rfl)) ?_; (with_reducible refine (catchpitref07_Number.calls kj4 a1 t197 t198 _ ?side1 A13.out).mono ?_); (case side1 => first | exact hG | exact TabOk.drewN hG _ | exact TabOk.drewN (TabOk.drewN hG _) _ | exact TabOk.below hG (by repeat (first | (with_reducible first | exact HB.out | apply below_alloc | apply pw_below_drewN | apply below_drew1) | exact HB.out))); rintro e w' ⟨rfl, ⟨nd, rfl⟩⟩; refine ⟨_, rfl, ?_⟩))
            go_ret
            exact ⟨by first | rfl | (simp [errW_none, errW_some] <;> rfl) | (simp [*, errW_none, errW_some] <;> rfl), by repeat (first | (with_reducible first | exact HB.out | apply below_alloc | apply pw_below_drewN | apply below_drew1) | exact HB.out)⟩
  · replace c4 := Bool.eq_false_iff.mpr c4
    subst c4
    have H1 : (some false) = some r := by rw [if_neg (show ¬ (false = true) by decide)] at H; exact H
    clear H
    have H := H1
    clear H1
    obtain rfl := Option.some.inj H
    go_enter Tryd.func8, Tryd.ntmps8
    go_wp2_with (first | ((with_reducible refine gate_callee (f := 25) rfl ?_); refine goesL_ (some 13) rfl rfl Tryd.func25 (by kernel_rfl) rfl #[] rfl (by (try simp only [List.map_toArray, List.map_cons, List.map_nil]); first | done | rfl | (simp only [List.length_drop, List.length_take]; rfl)) ?_; (with_reducible refine (catchpitlaw07_wakes.calls k  false _ ?side1 A3.out).mono ?_); (case side1 => first | exact hG | exact TabOk.drewN hG _ | exact TabOk.drewN (TabOk.drewN hG _) _ | exact TabOk.below hG (by repeat (first | (with_reducible first | exact HB.out | apply below_alloc | apply pw_below_drewN | apply below_drew1) | exact HB.out))); rintro e w29 ⟨rfl, hb⟩; refine ⟨_, rfl, ?_⟩; have n0_ := Aside0.mk (below_step (by repeat (first | (with_reducible first | exact HB.out | apply below_alloc | apply pw_below_drewN | apply below_drew1) | exact HB.out)) hb); clear HB; have HB := n0_; clear n0_; (try clear hb); (try clear hb2); (try clear hk); (try clear hi)))
    go_ret
    exact ⟨by first | rfl | (simp [errW_none, errW_some] <;> rfl) | (simp [*, errW_none, errW_some] <;> rfl), by repeat (first | (with_reducible first | exact HB.out | apply below_alloc | apply pw_below_drewN | apply below_drew1) | exact HB.out)⟩
end Go.Proofs.YtofegjgiocljlaaDoor.Pr
end
section
namespace Go.Proofs.YtofegjgiocljlaaDoor.Pr
open Go.RowKit Go.Proofs.YtofegjgiocljlaaDoorH Go.Proofs.YtofegjgiocljlaaDoorW.PrintWords Go.Proofs.YtofegjgiocljlaaDoorW.PrintLast Go.Proofs.YtofegjgiocljlaaDoorW.PrintMore
attribute [local go_sem] max2_int min2_int max_two min_two max_three min_three max_four min_four   -- for this text's walks alone
set_option linter.unusedVariables false
set_option linter.unusedSimpArgs false
def catchpitref02_token.j0 : Nat → Int → Bool → Option (Bool)
  | 0, _, _ => none
  | k + 1, x0, x24 => if x24 = true then (some true) else (if x0 = 33 then (some true) else (if x0 = 35 then (some true) else (if x0 = 36 then (some true) else (if x0 = 37 then (some true) else (if x0 = 38 then (some true) else (if x0 = 39 then (some true) else (if x0 = 42 then (some true) else (if x0 = 43 then (some true) else (if x0 = 45 then (some true) else (if x0 = 46 then (some true) else (if x0 = 94 then (some true) else (if x0 = 95 then (some true) else (if x0 = 96 then (some true) else (if x0 = 124 then (some true) else (if x0 = 126 then (some true) else (some false))))))))))))))))
def catchpitref02_token.f (k : Nat) (a0 : Int) : Option (Bool) := if a0 ≥ 97 then (if a0 ≤ 122 then (catchpitref02_token.j0 k a0 true) else (if a0 ≥ 65 then (if a0 ≤ 90 then (catchpitref02_token.j0 k a0 true) else (if a0 ≥ 48 then (catchpitref02_token.j0 k a0 (decide (a0 ≤ 57))) else (catchpitref02_token.j0 k a0 false))) else (if a0 ≥ 48 then (catchpitref02_token.j0 k a0 (decide (a0 ≤ 57))) else (catchpitref02_token.j0 k a0 false)))) else (if a0 ≥ 65 then (if a0 ≤ 90 then (catchpitref02_token.j0 k a0 true) else (if a0 ≥ 48 then (catchpitref02_token.j0 k a0 (decide (a0 ≤ 57))) else (catchpitref02_token.j0 k a0 false))) else (if a0 ≥ 48 then (catchpitref02_token.j0 k a0 (decide (a0 ≤ 57))) else (catchpitref02_token.j0 k a0 false)))
theorem catchpitref02_token.mono_l : ∀ k, (∀ y0 y1, LeO (catchpitref02_token.j0 k y0 y1) (catchpitref02_token.j0 (k + 1) y0 y1))
  | 0 => fun _ _ r h => by simp [catchpitref02_token.j0] at h
  | k + 1 => by
    have ih0 := catchpitref02_token.mono_l k
    · intro y0 y1
      unfold catchpitref02_token.j0
      repeat' first
      | (with_reducible exact ih0 _ _)
      | (with_reducible exact LeO.refl _)
      | (with_reducible exact LeO.none _)
      | (with_reducible refine LeO.ite ?_ ?_)
      | (with_reducible refine LeO.bind ?_ (fun _ => ?_))
      | exact ih0 _ _
      | exact LeO.none _
      | refine LeO.ite ?_ ?_
      | refine LeO.bind ?_ (fun _ => ?_)
theorem catchpitref02_token.mono : ∀ a0 k, LeO (catchpitref02_token.f k a0) (catchpitref02_token.f (k + 1) a0) := by
  intro a0 k
  have ih0 := catchpitref02_token.mono_l k
  unfold catchpitref02_token.f
  repeat' first
      | (with_reducible exact ih0 _ _)
      | (with_reducible exact LeO.refl _)
      | (with_reducible exact LeO.none _)
      | (with_reducible refine LeO.ite ?_ ?_)
      | (with_reducible refine LeO.bind ?_ (fun _ => ?_))
      | exact ih0 _ _
      | exact LeO.none _
      | refine LeO.ite ?_ ?_
      | refine LeO.bind ?_ (fun _ => ?_)
def catchpitref02_Token.l0 : Nat → ByteArray → Int → Option (Bool)
  | 0, _, _ => none
  | k + 1, x0, x3 => if x3 < (x0.size : Int) then (if 0 ≤ x3 then ((catchpitref02_token.f k (bt x0 x3)).bind fun t199 => (if t199 = true then (catchpitref02_Token.l0 k x0 (wrap64 (x3 + 1))) else (some false))) else (none)) else (some (decide ((x0.size : Int) > 0)))
def catchpitref02_Token.f (k : Nat) (a0 : ByteArray) : Option (Bool) := catchpitref02_Token.l0 k a0 0
theorem catchpitref02_Token.mono_l : ∀ k, (∀ y0 y1, LeO (catchpitref02_Token.l0 k y0 y1) (catchpitref02_Token.l0 (k + 1) y0 y1))
  | 0 => fun _ _ r h => by simp [catchpitref02_Token.l0] at h
  | k + 1 => by
    have ih0 := catchpitref02_Token.mono_l k
    · intro y0 y1
      unfold catchpitref02_Token.l0
      repeat' first
      | (with_reducible exact ih0 _ _)
      | (with_reducible exact catchpitref02_token.mono _ _)
      | (with_reducible exact LeO.refl _)
      | (with_reducible exact LeO.none _)
      | (with_reducible refine LeO.ite ?_ ?_)
      | (with_reducible refine LeO.bind ?_ (fun _ => ?_))
      | exact ih0 _ _
      | exact catchpitref02_token.mono _ _
      | exact LeO.none _
      | refine LeO.ite ?_ ?_
      | refine LeO.bind ?_ (fun _ => ?_)
theorem catchpitref02_Token.mono : ∀ a0 k, LeO (catchpitref02_Token.f k a0) (catchpitref02_Token.f (k + 1) a0) := by
  intro a0 k
  have ih0 := catchpitref02_Token.mono_l k
  unfold catchpitref02_Token.f
  repeat' first
      | (with_reducible exact ih0 _ _)
      | (with_reducible exact catchpitref02_token.mono _ _)
      | (with_reducible exact LeO.refl _)
      | (with_reducible exact LeO.none _)
      | (with_reducible refine LeO.ite ?_ ?_)
      | (with_reducible refine LeO.bind ?_ (fun _ => ?_))
      | exact ih0 _ _
      | exact catchpitref02_token.mono _ _
      | exact LeO.none _
      | refine LeO.ite ?_ ?_
      | refine LeO.bind ?_ (fun _ => ?_)
def catchpitref07_Codings.l0 : Nat → List ByteArray → List ByteArray → Int → Option (List ByteArray × Int)
  | 0, _, _, _ => none
  | k + 1, x4, x5, x6 => if x6 < (x5.length : Int) then (if 0 ≤ x6 then ((catchpitref07_word.f k (rdOf ByteArray.empty x5 x6)).bind fun t204 => ((catchpitref02_Token.f k t204).bind fun t205 => (if t205 = true then ((catchpitref02_Small.f k t204).bind fun t206 => (if x4.length < 8796093022208 then (catchpitref07_Codings.l0 k (x4 ++ [t206]) x5 (wrap64 (x6 + 1))) else (none))) else (some (([] : List ByteArray), 2))))) else (none)) else (if (x4.length : Int) = 0 then (some (([] : List ByteArray), 2)) else (some (x4, 0)))
def catchpitref07_Codings.f (k : Nat) (l0 : List ByteArray) : Option (List ByteArray × Int) := if (l0.length : Int) = 0 then (some (([] : List ByteArray), 7)) else ((catchpitref07_Items.f k l0).bind fun t200 => (catchpitref07_Codings.l0 k ([] : List ByteArray) t200 0))
theorem catchpitref07_Codings.mono_l : ∀ k, (∀ y0 y1 y2, LeO (catchpitref07_Codings.l0 k y0 y1 y2) (catchpitref07_Codings.l0 (k + 1) y0 y1 y2))
  | 0 => fun _ _ _ r h => by simp [catchpitref07_Codings.l0] at h
  | k + 1 => by
    have ih0 := catchpitref07_Codings.mono_l k
    · intro y0 y1 y2
      unfold catchpitref07_Codings.l0
      repeat' first
      | (with_reducible exact ih0 _ _ _)
      | (with_reducible exact catchpitref02_Small.mono _ _)
      | (with_reducible exact catchpitref02_Token.mono _ _)
      | (with_reducible exact catchpitref07_Items.mono _ _)
      | (with_reducible exact catchpitref07_word.mono _ _)
      | (with_reducible exact LeO.refl _)
      | (with_reducible exact LeO.none _)
      | (with_reducible refine LeO.ite ?_ ?_)
      | (with_reducible refine LeO.bind ?_ (fun _ => ?_))
      | exact ih0 _ _ _
      | exact catchpitref02_Small.mono _ _
      | exact catchpitref02_Token.mono _ _
      | exact catchpitref07_Items.mono _ _
      | exact catchpitref07_word.mono _ _
      | exact LeO.none _
      | refine LeO.ite ?_ ?_
      | refine LeO.bind ?_ (fun _ => ?_)
theorem catchpitref07_Codings.mono : ∀ a0 k, LeO (catchpitref07_Codings.f k a0) (catchpitref07_Codings.f (k + 1) a0) := by
  intro a0 k
  have ih0 := catchpitref07_Codings.mono_l k
  unfold catchpitref07_Codings.f
  repeat' first
      | (with_reducible exact ih0 _ _ _)
      | (with_reducible exact catchpitref02_Small.mono _ _)
      | (with_reducible exact catchpitref02_Token.mono _ _)
      | (with_reducible exact catchpitref07_Items.mono _ _)
      | (with_reducible exact catchpitref07_word.mono _ _)
      | (with_reducible exact LeO.refl _)
      | (with_reducible exact LeO.none _)
      | (with_reducible refine LeO.ite ?_ ?_)
      | (with_reducible refine LeO.bind ?_ (fun _ => ?_))
      | exact ih0 _ _ _
      | exact catchpitref02_Small.mono _ _
      | exact catchpitref02_Token.mono _ _
      | exact catchpitref07_Items.mono _ _
      | exact catchpitref07_word.mono _ _
      | exact LeO.none _
      | refine LeO.ite ?_ ?_
      | refine LeO.bind ?_ (fun _ => ?_)
end Go.Proofs.YtofegjgiocljlaaDoor.Pr
end
section
namespace Go.Proofs.YtofegjgiocljlaaDoorH
open Go.RowKit Go.Proofs.YtofegjgiocljlaaDoorW.PrintWords Go.Proofs.YtofegjgiocljlaaDoorW.PrintLast Go.Proofs.YtofegjgiocljlaaDoorW.PrintMore Go.Proofs.YtofegjgiocljlaaDoor.Pr
theorem ref02_blank (c : Int) : catchpitref02_blank.f c = some (blankI c) := by
  unfold catchpitref02_blank.f blankI
  by_cases h : c = 32
  · rw [if_pos h]; subst h; rfl
  · rw [if_neg h, beq_eq_false_iff_ne.2 h, Bool.false_or]
theorem mk_data (s : ByteArray) : (⟨s.data.toList.toArray⟩ : ByteArray) = s := bytes_ext (by simp)
theorem ref02_Trim_l1 (n : Nat) : ∀ (s : ByteArray) (k : Nat), s.size = n → n ≤ 140737488355328 → n < k →
    catchpitref02_Trim.l1 k s = some ⟨(rtrim blankU s.data.toList).toArray⟩ := by
  induction n with
  | zero =>
    intro s k hs hn hk
    obtain ⟨k, rfl⟩ : ∃ m, k = m + 1 := ⟨k - 1, by omega⟩
    rw [catchpitref02_Trim.l1, if_neg (by omega)]
    have hl : s.data.toList = [] := by rw [size_eq_length] at hs; exact List.length_eq_zero_iff.1 hs
    congr 1
    apply bytes_ext
    rw [hl]; rfl
  | succ n ih =>
    intro s k hs hn hk
    obtain ⟨k, rfl⟩ : ∃ m, k = m + 1 := ⟨k - 1, by omega⟩
    obtain ⟨t, c, hl, hb⟩ := last_of s (by omega)
    rw [catchpitref02_Trim.l1, if_pos (by omega), wrap_down (by omega) (by omega), if_pos (by omega), if_pos (by omega), ref02_blank, Option.bind_some, hb, blankU_int]
    rw [hl, rtrim_snoc]
    cases hp : blankU c with
    | true =>
      rw [if_pos rfl, if_pos (by omega), if_pos rfl, show ((s.size : Int) - 1).toNat = s.size - 1 by omega]
      have he : (s.extract 0 (s.size - 1)).data.toList = t := by
        rw [extract_to, hl, size_eq_length, hl]
        simp
      rw [ih _ k (by rw [size_eq_length, he]; have := size_eq_length s; rw [hl] at this; simp at this; omega) (by omega) (by omega), he]
    | false =>
      rw [if_neg (by simp), if_neg (by simp), ← hl, mk_data]
theorem ref02_Trim_l0 (n : Nat) : ∀ (s : ByteArray) (k : Nat), s.size = n → n ≤ 140737488355328 → n + n + 2 < k →
    catchpitref02_Trim.l0 k s = some ⟨(rtrim blankU (s.data.toList.dropWhile blankU)).toArray⟩ := by
  induction n with
  | zero =>
    intro s k hs hn hk
    obtain ⟨k, rfl⟩ : ∃ m, k = m + 2 := ⟨k - 2, by omega⟩
    rw [catchpitref02_Trim.l0, if_neg (by omega), catchpitref02_Trim.j1, ref02_Trim_l1 0 s k hs (by omega) (by omega)]
    have hl : s.data.toList = [] := by rw [size_eq_length] at hs; exact List.length_eq_zero_iff.1 hs
    rw [hl]; rfl
  | succ n ih =>
    intro s k hs hn hk
    obtain ⟨k, rfl⟩ : ∃ m, k = m + 2 := ⟨k - 2, by omega⟩
    obtain ⟨c, t, hl, hb⟩ := first_of s (by omega)
    rw [catchpitref02_Trim.l0, if_pos (by omega), if_pos (by omega), ref02_blank, Option.bind_some, hb, blankU_int, hl]
    cases hp : blankU c with
    | true =>
      rw [if_pos rfl, if_pos (by omega), List.dropWhile_cons_of_pos hp]
      have he : (s.extract 1 s.size).data.toList = t := by rw [extract_from, hl]; rfl
      rw [ih _ (k + 1) (by rw [size_eq_length, he]; have := size_eq_length s; rw [hl] at this; simp at this; omega) (by omega) (by omega), he]
    | false =>
      rw [if_neg (by simp), catchpitref02_Trim.j1, ref02_Trim_l1 (n + 1) s k hs (by omega) (by omega), List.dropWhile_cons_of_neg (by simp [hp]), hl]
theorem ref02_Trim (s : ByteArray) (hs : s.size ≤ 140737488355328) : Ev (fun k => catchpitref02_Trim.f k s) (trimS s) := by
  refine ⟨s.size + s.size + 3, fun k hk => ?_⟩
  show catchpitref02_Trim.l0 k s = _
  rw [ref02_Trim_l0 s.size s k rfl hs (by omega)]
  unfold trimS
  rw [trimL_eq']
end Go.Proofs.YtofegjgiocljlaaDoorH
end
section
namespace Go.Proofs.YtofegjgiocljlaaDoorH
open Go.RowKit Go.Proofs.YtofegjgiocljlaaDoorW.PrintWords Go.Proofs.YtofegjgiocljlaaDoorW.PrintLast Go.Proofs.YtofegjgiocljlaaDoorW.PrintMore Go.Proofs.YtofegjgiocljlaaDoor.Pr
theorem drop_cons {α : Type} (l : List α) (d : α) (i : Nat) (h : i < l.length) : l.drop i = l.getD i d :: l.drop (i + 1) := by
  rw [List.drop_eq_getElem_cons h]
  simp [List.getD_eq_getElem?_getD, h]
theorem wrapN (a b : Nat) (h : a + b < 4611686018427387904) : wrap64 ((a : Int) + (b : Int)) = ((a + b : Nat) : Int) := by unfold wrap64; omega
theorem wrapS (a : Nat) (h : a < 4611686018427387904) : wrap64 ((a : Int) + 1) = ((a + 1 : Nat) : Int) := by unfold wrap64; omega
theorem ref05_Texts (a : List ByteArray) (hc : a.length ≤ 1000000) : Ev (fun k => catchpitref05_Texts.f k a a) true := by
  have hl0 : ∀ d i k : Nat, i ≤ a.length → a.length - i = d → d < k → catchpitref05_Texts.l0 k a a (i : Int) = some true := by
    intro d
    induction d with
    | zero =>
      intro i k h1 h2 h3
      obtain ⟨k, rfl⟩ : ∃ m, k = m + 1 := ⟨k - 1, by omega⟩
      rw [catchpitref05_Texts.l0, if_neg (by omega)]
    | succ d ih =>
      intro i k h1 h2 h3
      obtain ⟨k, rfl⟩ : ∃ m, k = m + 1 := ⟨k - 1, by omega⟩
      rw [catchpitref05_Texts.l0, if_pos (by omega), if_pos (by omega), if_pos (by omega), if_pos rfl, show wrap64 ((i : Int) + 1) = ((i + 1 : Nat) : Int) by unfold wrap64; omega]
      exact ih (i + 1) k (by omega) (by omega) (by omega)
  refine ⟨a.length + 1, fun k hk => ?_⟩
  show catchpitref05_Texts.f k a a = _
  rw [catchpitref05_Texts.f, if_pos rfl]
  exact hl0 a.length 0 k (by omega) (by omega) (by omega)
end Go.Proofs.YtofegjgiocljlaaDoorH
end
section
namespace Go.Proofs.YtofegjgiocljlaaDoorH
open Go.RowKit Go.Proofs.YtofegjgiocljlaaDoorW.PrintWords Go.Proofs.YtofegjgiocljlaaDoorW.PrintLast Go.Proofs.YtofegjgiocljlaaDoorW.PrintMore Go.Proofs.YtofegjgiocljlaaDoor.Pr
theorem ev_succ {α : Type} {g : Nat → Option α} {r : α} (h : Ev (fun k => g (k + 1)) r) : Ev g r := by
  obtain ⟨K, hK⟩ := h
  refine ⟨K + 1, fun k hk => ?_⟩
  obtain ⟨k, rfl⟩ : ∃ m, k = m + 1 := ⟨k - 1, by omega⟩
  exact hK k (by omega)
theorem ev_bind {α β : Type} {g : Nat → Option α} {h : Nat → α → Option β} {x : α} {r : β} (h1 : Ev g x) (h2 : Ev (fun k => h k x) r) : Ev (fun k => (g k).bind (h k)) r := by
  obtain ⟨K1, h1⟩ := h1
  obtain ⟨K2, h2⟩ := h2
  exact ⟨K1 + K2, fun k hk => by show (g k).bind (h k) = _; rw [h1 k (by omega), Option.bind_some]; exact h2 k (by omega)⟩
theorem ev_as {α : Type} {g g' : Nat → Option α} {r : α} (h : Ev g r) (e : ∀ k, g' k = g k) : Ev g' r := by
  obtain ⟨K, hK⟩ := h
  exact ⟨K, fun k hk => (e k).trans (hK k hk)⟩
def mkB (l : List UInt8) : ByteArray := ⟨l.toArray⟩
def partsC (c : UInt8) (s : ByteArray) : List ByteArray := (splitL c s.data.toList).map mkB
theorem partsB_eq (s : ByteArray) : partsB s = partsC 44 s := rfl
theorem splitL_no (c : UInt8) (p : List UInt8) (h : ∀ x ∈ p, x ≠ c) : splitL c p = [p] :=
  splitL_none c p (List.findIdx_eq_length.2 fun x hx => by simpa using h x hx)
theorem extract_mk (s : ByteArray) (a i : Nat) (p : List UInt8) (h1 : a ≤ i) (h2 : i ≤ s.size) (hp : s.data.toList.drop a = p ++ s.data.toList.drop i) : s.extract a i = mkB p := by
  apply bytes_ext
  rw [extract_list, hp]
  have hl : p.length = i - a := by
    have := congrArg List.length hp
    rw [List.length_append, List.length_drop, List.length_drop, data_length] at this
    omega
  show _ = p
  rw [← hl, List.take_left]
theorem ref07_cut_l0 (s : ByteArray) (c : UInt8) (hs : s.size ≤ 1000000000) : ∀ (d i a : Nat) (p : List UInt8) (acc : List ByteArray), a ≤ i → i ≤ s.size → s.size - i = d → acc.length ≤ i →
    s.data.toList.drop a = p ++ s.data.toList.drop i → (∀ x ∈ p, x ≠ c) →
    Ev (fun k => catchpitref07_cut.l0 k s ((c.toNat : Nat) : Int) acc (a : Int) (i : Int)) (acc ++ (splitL c (s.data.toList.drop a)).map mkB) := by
  intro d
  induction d with
  | zero =>
    intro i a p acc h1 h2 h3 h4 hp hc
    obtain rfl : i = s.size := by omega
    have he := extract_mk s a s.size p h1 (Nat.le_refl _) hp
    have hz : s.data.toList.drop s.size = [] := List.drop_eq_nil_of_le (by rw [data_length]; exact Nat.le_refl _)
    rw [hz, List.append_nil] at hp
    refine ev_succ (ev_succ ⟨0, fun k _ => ?_⟩)
    show catchpitref07_cut.l0 (k + 1 + 1) s _ acc _ _ = _
    rw [catchpitref07_cut.l0, if_pos (by omega), if_pos rfl, if_pos (by omega), if_pos (by omega), if_pos (by omega), show wrap64 ((s.size : Int) + 1) = ((s.size + 1 : Nat) : Int) by unfold wrap64; omega, catchpitref07_cut.l0, if_neg (by omega), Int.toNat_natCast, Int.toNat_natCast, he, hp, splitL_no c p hc]
    rfl
  | succ d ih =>
    intro i a p acc h1 h2 h3 h4 hp hc
    obtain ⟨b, hb, hbt⟩ := drop_byte s i (by omega)
    have hw : wrap64 ((i : Int) + 1) = ((i + 1 : Nat) : Int) := by unfold wrap64; omega
    by_cases hbc : b = c
    · subst hbc
      have he := extract_mk s a i p h1 (by omega) hp
      have key := ih (i + 1) (i + 1) [] (acc ++ [mkB p]) (Nat.le_refl _) (by omega) (by omega) (by rw [List.length_append, List.length_singleton]; omega) (by simp) (by simp)
      rw [show acc ++ (splitL b (s.data.toList.drop a)).map mkB = acc ++ [mkB p] ++ (splitL b (s.data.toList.drop (i + 1))).map mkB by
        rw [hp, hb, splitL_append, splitL_no b p hc]; simp]
      refine ev_succ (ev_as key fun k => ?_)
      rw [catchpitref07_cut.l0, if_pos (by omega), if_neg (by omega), if_pos (by omega), if_pos (by omega), if_pos hbt, if_pos (by omega), if_pos (by omega), if_pos (by omega), hw, Int.toNat_natCast, Int.toNat_natCast, he]
    · have key := ih (i + 1) a (p ++ [b]) acc (by omega) (by omega) (by omega) (by omega) (by rw [hp, hb]; simp) (fun x hx => by
        rcases List.mem_append.1 hx with h | h
        · exact hc x h
        · rw [List.mem_singleton.1 h]; exact hbc)
      refine ev_succ (ev_as key fun k => ?_)
      rw [catchpitref07_cut.l0, if_pos (by omega), if_neg (by omega), if_pos (by omega), if_pos (by omega), if_neg (fun h => hbc (by rw [hbt] at h; exact UInt8.toNat_inj.1 (by omega))), hw]
theorem ref07_cut (s : ByteArray) (c : UInt8) (hs : s.size ≤ 1000000000) : Ev (fun k => catchpitref07_cut.f k s ((c.toNat : Nat) : Int)) (partsC c s) := by
  have := ref07_cut_l0 s c hs s.size 0 0 [] [] (Nat.le_refl _) (Nat.zero_le _) rfl (Nat.zero_le _) rfl (by simp)
  exact this
theorem snds_map (i : Nat) (l : List ByteArray) : (l.map fun x => (i, x)).map (fun y => y.2) = l := by
  rw [List.map_map]
  exact List.map_id _
theorem itemsF_snds : ∀ (l : List ByteArray) (i : Nat), (itemsF i l).map (fun y => y.2) = l.flatMap itemsP
  | [], _ => rfl
  | v :: l, i => by rw [itemsF, List.map_append, snds_map, itemsF_snds l (i + 1), List.flatMap_cons]
theorem itemsL_flat (l : List ByteArray) : itemsL l = l.flatMap itemsP := itemsF_snds l 0
theorem itemsL_one (v : ByteArray) : itemsL [v] = itemsP v := by rw [itemsL_flat, List.flatMap_cons, List.flatMap_nil, List.append_nil]
theorem rdOf_nat (l : List ByteArray) (i : Nat) : rdOf ByteArray.empty l (i : Int) = l.getD i ByteArray.empty := by
  unfold rdOf
  rw [Int.toNat_natCast]
theorem partsC_size (c : UInt8) (s : ByteArray) : ∀ p ∈ partsC c s, p.size ≤ s.size := by
  intro p hp
  obtain ⟨l, hl, rfl⟩ := List.mem_map.1 hp
  rw [size_eq_length s]
  exact splitL_size _ _ _ hl
theorem partsC_length (c : UInt8) (s : ByteArray) : (partsC c s).length ≤ s.size + 1 := by
  unfold partsC
  rw [List.length_map, size_eq_length]
  exact splitL_count _ _
theorem sumS_drop (l : List ByteArray) (i : Nat) (h : i < l.length) : sumS (l.drop i) = (l.getD i ByteArray.empty).size + 1 + sumS (l.drop (i + 1)) := by
  rw [drop_cons l ByteArray.empty i h, sumS_cons]
theorem ref07_Items_l1 (xs : List ByteArray) (i : Nat) (ps : List ByteArray) (hps : ∀ p ∈ ps, p.size ≤ 1000000000) (r : List ByteArray) : ∀ (d j : Nat) (acc : List ByteArray), j ≤ ps.length → ps.length - j = d → acc.length + d ≤ 1000000000 → ps.length ≤ 1000000000 →
    Ev (fun k => catchpitref07_Items.l0 k xs (acc ++ (ps.drop j).flatMap partItem) (wrap64 ((i : Int) + 1))) r →
    Ev (fun k => catchpitref07_Items.l1 k xs acc (i : Int) ps (j : Int)) r := by
  intro d
  induction d with
  | zero =>
    intro j acc h1 h2 h3 h4 h
    rw [List.drop_eq_nil_of_le (by omega), List.flatMap_nil, List.append_nil] at h
    refine ev_succ (ev_as h fun k => ?_)
    rw [catchpitref07_Items.l1, if_neg (by omega)]
  | succ d ih =>
    intro j acc h1 h2 h3 h4 h
    have hj : j < ps.length := by omega
    have hw : wrap64 ((j : Int) + 1) = ((j + 1 : Nat) : Int) := by unfold wrap64; omega
    rw [drop_cons ps ByteArray.empty j hj, List.flatMap_cons, ← List.append_assoc] at h
    have hsz := hps _ (mem_getD ps ByteArray.empty j hj)
    have ht := ref02_Trim (ps.getD j ByteArray.empty) (by omega)
    unfold partItem at h
    by_cases hz : (trimS (ps.getD j ByteArray.empty)).size = 0
    · rw [if_pos hz, List.append_nil] at h
      have key := ih (j + 1) acc (by omega) (by omega) (by omega) h4 h
      refine ev_succ (ev_as (ev_bind (h := fun k t144 => (if (t144.size : Int) > 0 then (if acc.length < 8796093022208 then (catchpitref07_Items.l1 k xs (acc ++ [t144]) i ps (wrap64 ((j : Int) + 1))) else (none)) else (catchpitref07_Items.l1 k xs acc i ps (wrap64 ((j : Int) + 1))))) ht (ev_as key fun k => ?_)) fun k => ?_)
      · rw [if_neg (by omega), hw]
      · rw [catchpitref07_Items.l1, if_pos (by omega), if_pos (by omega), rdOf_nat]
    · rw [if_neg hz] at h
      have key := ih (j + 1) (acc ++ [trimS (ps.getD j ByteArray.empty)]) (by omega) (by omega) (by rw [List.length_append, List.length_singleton]; omega) h4 h
      refine ev_succ (ev_as (ev_bind (h := fun k t144 => (if (t144.size : Int) > 0 then (if acc.length < 8796093022208 then (catchpitref07_Items.l1 k xs (acc ++ [t144]) i ps (wrap64 ((j : Int) + 1))) else (none)) else (catchpitref07_Items.l1 k xs acc i ps (wrap64 ((j : Int) + 1))))) ht (ev_as key fun k => ?_)) fun k => ?_)
      · rw [if_pos (by omega), if_pos (by omega), hw]
      · rw [catchpitref07_Items.l1, if_pos (by omega), if_pos (by omega), rdOf_nat]
theorem ref07_Items_l0 (xs : List ByteArray) (hS : sumS xs ≤ 100000000) : ∀ (d i : Nat) (acc : List ByteArray), i ≤ xs.length → xs.length - i = d → acc.length + sumS (xs.drop i) ≤ 100000000 →
    Ev (fun k => catchpitref07_Items.l0 k xs acc (i : Int)) (acc ++ (xs.drop i).flatMap itemsP) := by
  have hlen := sumS_length xs
  intro d
  induction d with
  | zero =>
    intro i acc h1 h2 h3
    rw [List.drop_eq_nil_of_le (by omega), List.flatMap_nil, List.append_nil]
    refine ev_succ ⟨0, fun k _ => ?_⟩
    show catchpitref07_Items.l0 (k + 1) xs acc _ = _
    rw [catchpitref07_Items.l0, if_neg (by omega)]
  | succ d ih =>
    intro i acc h1 h2 h3
    have hi : i < xs.length := by omega
    have hw : wrap64 ((i : Int) + 1) = ((i + 1 : Nat) : Int) := by unfold wrap64; omega
    have hsz := sumS_at xs _ (mem_getD xs ByteArray.empty i hi)
    have hpl := itemsP_length (xs.getD i ByteArray.empty)
    have hpc := partsC_length 44 (xs.getD i ByteArray.empty)
    rw [sumS_drop xs i hi] at h3
    have key := ih (i + 1) (acc ++ itemsP (xs.getD i ByteArray.empty)) (by omega) (by omega) (by rw [List.length_append]; omega)
    rw [List.append_assoc, ← List.flatMap_cons, ← drop_cons xs ByteArray.empty i hi, itemsP_flat, ← hw] at key
    have h := ref07_Items_l1 xs i (partsB (xs.getD i ByteArray.empty)) (fun p hp => by have := partsC_size 44 _ p hp; omega) _ (partsB (xs.getD i ByteArray.empty)).length 0 acc (Nat.zero_le _) rfl (by rw [partsB_eq]; omega) (by rw [partsB_eq]; omega) key
    refine ev_succ (ev_as (ev_bind (h := fun k t140 => (catchpitref07_Items.l1 k xs acc i t140 0)) (ref07_cut (xs.getD i ByteArray.empty) 44 (by omega)) h) fun k => ?_)
    rw [catchpitref07_Items.l0, if_pos (by omega), if_pos (by omega), rdOf_nat]
    rfl
theorem ref07_Items (xs : List ByteArray) (hS : sumS xs ≤ 100000000) : Ev (fun k => catchpitref07_Items.f k xs) (itemsL xs) := by
  have := ref07_Items_l0 xs hS xs.length 0 [] (Nat.zero_le _) rfl (by simpa using hS)
  rw [itemsL_flat]
  exact this
end Go.Proofs.YtofegjgiocljlaaDoorH
end
section
namespace Go.Proofs.YtofegjgiocljlaaDoorH
open Go.RowKit Go.Proofs.YtofegjgiocljlaaDoorW.PrintWords Go.Proofs.YtofegjgiocljlaaDoorW.PrintLast Go.Proofs.YtofegjgiocljlaaDoorW.PrintMore Go.Proofs.YtofegjgiocljlaaDoor.Pr
theorem law07_long_l0 (l : List ByteArray) (hl : ∀ y ∈ l, y.size ≤ 140737488351232) (hc : l.length ≤ 140737488351232) : ∀ (d i n : Nat), i ≤ l.length → l.length - i = d → n ≤ 200000000000000 →
    Ev (fun k => catchpitlaw07_long.l0 k l (n : Int) (i : Int)) (decide (1000 < n + sumS (l.drop i))) := by
  intro d
  induction d with
  | zero =>
    intro i n h1 h2 h3
    rw [List.drop_eq_nil_of_le (by omega)]
    refine ev_succ ⟨0, fun k _ => ?_⟩
    show catchpitlaw07_long.l0 (k + 1) l _ _ = _
    rw [catchpitlaw07_long.l0, if_neg (by omega)]
    congr 1
    show _ = decide (1000 < n + 0)
    rw [Nat.add_zero]
    exact decide_eq_decide.2 (by omega)
  | succ d ih =>
    intro i n h1 h2 h3
    have hi : i < l.length := by omega
    have hwr : wrap64 ((i : Int) + 1) = ((i + 1 : Nat) : Int) := by unfold wrap64; omega
    have hy := hl _ (mem_getD l ByteArray.empty i hi)
    by_cases hn : n ≤ 1000
    · have g := ih (i + 1) (n + ((l.getD i ByteArray.empty).size + 1)) (by omega) (by omega) (by omega)
      rw [sumS_drop l i hi, ← Nat.add_assoc]
      refine ev_succ (ev_as g fun k => ?_)
      rw [catchpitlaw07_long.l0, if_pos (by omega), if_pos (by omega), if_pos (by omega), rdOf_nat, hwr, wrapS _ (by omega), wrapN _ _ (by omega)]
    · refine ev_succ ⟨0, fun k _ => ?_⟩
      show catchpitlaw07_long.l0 (k + 1) l _ _ = _
      rw [catchpitlaw07_long.l0, if_pos (by omega), if_neg (by omega)]
      congr 1
      exact decide_eq_decide.2 (by omega)
theorem law07_long (l : List ByteArray) (hl : ∀ y ∈ l, y.size ≤ 140737488351232) (hc : l.length ≤ 140737488351232) : Ev (fun k => catchpitlaw07_long.f k l) (decide (1000 < sumS l)) := by
  have := law07_long_l0 l hl hc l.length 0 0 (Nat.zero_le _) rfl (Nat.zero_le _)
  rw [Nat.zero_add] at this
  exact this
theorem wakes07 : Ev (fun k => catchpitlaw07_wakes.f k) true := by
  obtain ⟨K, hK⟩ := ref05_Texts [(⟨#[103, 122, 105, 112]⟩ : ByteArray), (⟨#[99, 104, 117, 110, 107, 101, 100]⟩ : ByteArray)] (by decide)
  dsimp only at hK
  have e1 : list_Length.f (([(⟨#[53]⟩ : ByteArray), (⟨#[53, 44, 32, 53]⟩ : ByteArray)] : List ByteArray)) = some (5, 0) := by decide +kernel
  have e2 : list_Length.f (([(⟨#[53]⟩ : ByteArray), (⟨#[54]⟩ : ByteArray)] : List ByteArray)) = some (0, 2) := by decide +kernel
  have e3 : list_Codings.f (([(⟨#[103, 122, 105, 112, 59, 113, 61, 49, 44, 32, 67, 104, 117, 110, 107, 101, 100]⟩ : ByteArray)] : List ByteArray)) = some ([(⟨#[103, 122, 105, 112]⟩ : ByteArray), (⟨#[99, 104, 117, 110, 107, 101, 100]⟩ : ByteArray)], 0) := by decide +kernel
  refine ⟨K, fun k hk => ?_⟩
  show catchpitlaw07_wakes.f k = _
  unfold catchpitlaw07_wakes.f
  rw [e1, Option.bind_some, e2, Option.bind_some, e3, Option.bind_some, if_pos rfl, if_pos rfl, if_pos rfl, if_pos rfl, hK k hk, Option.bind_some]
end Go.Proofs.YtofegjgiocljlaaDoorH
end
section
namespace Go.Proofs.YtofegjgiocljlaaDoorH
open Go.RowKit Go.Proofs.YtofegjgiocljlaaDoorW.PrintWords Go.Proofs.YtofegjgiocljlaaDoorW.PrintLast Go.Proofs.YtofegjgiocljlaaDoorW.PrintMore Go.Proofs.YtofegjgiocljlaaDoor.Pr
def digU (c : UInt8) : Bool := decide (48 ≤ (c.toNat : Int) ∧ (c.toNat : Int) ≤ 57)
def valL (n : Int) (l : List UInt8) : Int := l.foldl (fun m c => 10 * m + ((c.toNat : Int) - 48)) n
theorem valL_cons (n : Int) (c : UInt8) (l : List UInt8) : valL n (c :: l) = valL (10 * n + ((c.toNat : Int) - 48)) l := rfl
theorem digU_iff {c : UInt8} : digU c = true ↔ 48 ≤ (c.toNat : Int) ∧ (c.toNat : Int) ≤ 57 := by
  unfold digU
  exact decide_eq_true_iff
theorem valL_ge : ∀ (l : List UInt8) (n : Int), 0 ≤ n → l.all digU = true → n ≤ valL n l
  | [], n, _, _ => Int.le_refl _
  | c :: l, n, h, ha => by
    rw [List.all_cons, Bool.and_eq_true] at ha
    have hc := digU_iff.1 ha.1
    have := valL_ge l (10 * n + ((c.toNat : Int) - 48)) (by omega) ha.2
    rw [valL_cons]
    omega
theorem valL_lt : ∀ (l : List UInt8) (n : Int), 0 ≤ n → l.all digU = true → valL n l < (n + 1) * 10 ^ l.length
  | [], n, _, _ => by
    show n < (n + 1) * 10 ^ 0
    omega
  | c :: l, n, h, ha => by
    rw [List.all_cons, Bool.and_eq_true] at ha
    have hc := digU_iff.1 ha.1
    have := valL_lt l (10 * n + ((c.toNat : Int) - 48)) (by omega) ha.2
    rw [valL_cons, List.length_cons, Int.pow_succ]
    have h2 : (10 * n + ((c.toNat : Int) - 48) + 1) * 10 ^ l.length ≤ (10 * (n + 1)) * 10 ^ l.length := Int.mul_le_mul_of_nonneg_right (by omega) (Int.pow_nonneg (by omega))
    have h3 : (10 * (n + 1)) * 10 ^ l.length = (n + 1) * (10 ^ l.length * 10) := by rw [Int.mul_comm 10 (n + 1), Int.mul_assoc, Int.mul_comm 10 (10 ^ l.length)]
    omega
theorem valL_big : ∀ (l : List UInt8) (n : Int), 0 ≤ n → l.all digU = true → n * 10 ^ l.length ≤ valL n l
  | [], n, _, _ => by
    show n * 10 ^ 0 ≤ n
    omega
  | c :: l, n, h, ha => by
    rw [List.all_cons, Bool.and_eq_true] at ha
    have hc := digU_iff.1 ha.1
    have := valL_big l (10 * n + ((c.toNat : Int) - 48)) (by omega) ha.2
    rw [valL_cons, List.length_cons, Int.pow_succ]
    have h2 : (10 * n) * 10 ^ l.length ≤ (10 * n + ((c.toNat : Int) - 48)) * 10 ^ l.length := Int.mul_le_mul_of_nonneg_right (by omega) (Int.pow_nonneg (by omega))
    have h3 : (10 * n) * 10 ^ l.length = n * (10 ^ l.length * 10) := by rw [Int.mul_comm 10 n, Int.mul_assoc, Int.mul_comm 10 (10 ^ l.length)]
    omega
theorem numL_bad : ∀ (l : List UInt8) (n : Int) (big : Bool), l.all digU = false → numL n big l = none
  | [], _, _, h => by cases h
  | c :: l, n, big, h => by
    rw [numL]
    by_cases hc : digU c = true
    · rw [List.all_cons, hc, Bool.true_and] at h
      have := digU_iff.1 hc
      rw [if_neg (by omega)]
      split
      · exact numL_bad l _ _ h
      split
      · exact numL_bad l _ _ h
      · exact numL_bad l _ _ h
    · have : ¬ (48 ≤ (c.toNat : Int) ∧ (c.toNat : Int) ≤ 57) := fun e => hc (digU_iff.2 e)
      rw [if_pos (by omega)]
theorem numL_true : ∀ (l : List UInt8) (n : Int), l.all digU = true → numL n true l = some (n, true)
  | [], _, _ => rfl
  | c :: l, n, h => by
    rw [List.all_cons, Bool.and_eq_true] at h
    have := digU_iff.1 h.1
    rw [numL, if_neg (by omega), if_pos rfl]
    exact numL_true l n h.2
theorem numL_good : ∀ (l : List UInt8) (n : Int), 0 ≤ n → l.all digU = true → (valL n l ≤ 4611686018427387903 → numL n false l = some (valL n l, false)) ∧ (4611686018427387903 < valL n l → n ≤ 4611686018427387903 → ∃ m, numL n false l = some (m, true))
  | [], n, _, _ => ⟨fun _ => rfl, fun h h2 => by have : valL n [] = n := rfl; omega⟩
  | c :: l, n, h0, h => by
    rw [List.all_cons, Bool.and_eq_true] at h
    have hc := digU_iff.1 h.1
    rw [numL, if_neg (by omega), if_neg (by decide), valL_cons]
    have hge := valL_ge l (10 * n + ((c.toNat : Int) - 48)) (by omega) h.2
    have ih := numL_good l (10 * n + ((c.toNat : Int) - 48)) (by omega) h.2
    by_cases hb : n > (4611686018427387903 - ((c.toNat : Int) - 48)) / 10
    · rw [if_pos hb]
      exact ⟨fun hv => by omega, fun _ _ => ⟨n, numL_true l n h.2⟩⟩
    · rw [if_neg hb]
      exact ⟨fun hv => ih.1 hv, fun hv hn => ih.2 hv (by omega)⟩
theorem numR_eq (s : ByteArray) : numR s = if s.data.toList.all digU = false ∨ s.size = 0 then (0, 2) else if valL 0 s.data.toList > 4611686018427387903 then (0, 3) else (valL 0 s.data.toList, 0) := by
  cases h : s.data.toList.all digU with
  | false => rw [if_pos (.inl rfl), numR_none (numL_bad _ _ _ h)]
  | true =>
    have hg := numL_good s.data.toList 0 (Int.le_refl _) h
    by_cases hs : s.size = 0
    · rw [if_pos (.inr hs)]
      by_cases hv : valL 0 s.data.toList ≤ 4611686018427387903
      · rw [numR_some (hg.1 hv), if_pos hs]
      · obtain ⟨m, hm⟩ := hg.2 (by omega) (by omega)
        rw [numR_some hm, if_pos hs]
    · rw [if_neg (by simp [hs])]
      by_cases hv : valL 0 s.data.toList ≤ 4611686018427387903
      · rw [numR_some (hg.1 hv), if_neg hs, if_neg (by decide), if_neg (by omega)]
      · obtain ⟨m, hm⟩ := hg.2 (by omega) (by omega)
        rw [numR_some hm, if_neg hs, if_pos rfl, if_pos (by omega)]
theorem pow10_ge (k m : Nat) (h : m ≤ k) : (10 : Int) ^ m ≤ (10 : Int) ^ k := by
  have := Nat.pow_le_pow_right (n := 10) (by decide) h
  have e : ∀ j : Nat, (10 : Int) ^ j = ((10 ^ j : Nat) : Int) := fun j => by rw [Int.natCast_pow]; rfl
  rw [e, e]
  exact Int.ofNat_le.2 this
theorem ref07_Number_l1 (s : ByteArray) (hs : s.size ≤ 1000000000) : ∀ (d i : Nat) (n : Int), i ≤ s.size → s.size - i = d → 0 ≤ n → (s.data.toList.drop i).all digU = true → valL n (s.data.toList.drop i) < 18446744073709551616 →
    Ev (fun k => catchpitref07_Number.l1 k s n (i : Int)) (if valL n (s.data.toList.drop i) > 4611686018427387903 then (0, 3) else (valL n (s.data.toList.drop i), 0)) := by
  intro d
  induction d with
  | zero =>
    intro i n h1 h2 h3 h4 h5
    rw [List.drop_eq_nil_of_le (by rw [data_length]; omega)]
    refine ev_succ ⟨0, fun k _ => ?_⟩
    show catchpitref07_Number.l1 (k + 1) s n _ = _
    rw [catchpitref07_Number.l1, if_neg (by omega)]
    show _ = some (if n > 4611686018427387903 then _ else (n, 0))
    split <;> rfl
  | succ d ih =>
    intro i n h1 h2 h3 h4 h5
    obtain ⟨b, hb, hbt⟩ := drop_byte s i (by omega)
    have hw : wrap64 ((i : Int) + 1) = ((i + 1 : Nat) : Int) := by unfold wrap64; omega
    rw [hb, List.all_cons, Bool.and_eq_true] at h4
    have hc := digU_iff.1 h4.1
    rw [hb, valL_cons] at h5
    have hge := valL_ge (s.data.toList.drop (i + 1)) (10 * n + ((b.toNat : Int) - 48)) (by omega) h4.2
    have g := ih (i + 1) (10 * n + ((b.toNat : Int) - 48)) (by omega) (by omega) (by omega) h4.2 h5
    rw [hb, valL_cons]
    refine ev_succ (ev_as g fun k => ?_)
    rw [catchpitref07_Number.l1, if_pos (by omega), if_pos (by omega), hbt, hw, u64_id (m := 10 * n) (by omega) (by omega), show (((b.toNat : Nat) : Int) - 48) % 256 = ((b.toNat : Nat) : Int) - 48 by omega, u64_id (by omega) (by omega)]
theorem valL_zeros : ∀ (l : List UInt8), (∀ x ∈ l, x = 48) → ∀ r, valL 0 (l ++ r) = valL 0 r
  | [], _, _ => rfl
  | c :: l, h, r => by
    rw [h c List.mem_cons_self, List.cons_append, valL_cons]
    exact valL_zeros l (fun x hx => h x (List.mem_cons_of_mem _ hx)) r
theorem ref07_Number_l0 (s : ByteArray) (hs : s.size ≤ 1000000000) (h0 : 0 < s.size) : ∀ (d i a : Nat), i ≤ s.size → s.size - i = d → a ≤ i → a < s.size → (∀ x ∈ s.data.toList.take a, x = 48) → (a < i → a < s.size - 1 → bt s a ≠ 48) → (s.data.toList.take i).all digU = true →
    Ev (fun k => catchpitref07_Number.l0 k s (a : Int) (i : Int)) (numR s) := by
  intro d
  induction d with
  | zero =>
    intro i a h1 h2 h3 h4 h5 h6 h7
    obtain rfl : i = s.size := by omega
    rw [List.take_of_length_le (by rw [data_length]; exact Nat.le_refl _)] at h7
    have hv : valL 0 s.data.toList = valL 0 (s.data.toList.drop a) := by
      have := valL_zeros (s.data.toList.take a) h5 (s.data.toList.drop a)
      rwa [List.take_append_drop] at this
    have hda : (s.data.toList.drop a).all digU = true := by
      rw [← List.take_append_drop a s.data.toList, List.all_append, Bool.and_eq_true] at h7
      exact h7.2
    rw [numR_eq, if_neg (fun h => h.elim (fun h => by rw [h7] at h; cases h) (fun h => by omega)), hv]
    have hww : wrap64 ((s.size : Int) - (a : Int)) = (s.size : Int) - (a : Int) := by unfold wrap64; omega
    by_cases hl : (s.size : Int) - (a : Int) > 19
    · have hne := h6 (by omega) (by omega)
      obtain ⟨b, hb, hbt⟩ := drop_byte s a h4
      rw [hb, List.all_cons, Bool.and_eq_true] at hda
      have hc := digU_iff.1 hda.1
      have hbig := valL_big (s.data.toList.drop (a + 1)) (10 * 0 + ((b.toNat : Int) - 48)) (by omega) hda.2
      have hp := pow10_ge (s.data.toList.drop (a + 1)).length 19 (by rw [List.length_drop, data_length]; omega)
      have hone : (1 : Int) * 10 ^ (s.data.toList.drop (a + 1)).length ≤ (10 * 0 + ((b.toNat : Int) - 48)) * 10 ^ (s.data.toList.drop (a + 1)).length := Int.mul_le_mul_of_nonneg_right (by omega) (Int.pow_nonneg (by omega))
      have h19 : (10 : Int) ^ 19 = 10000000000000000000 := by decide
      refine ev_succ ⟨0, fun k _ => ?_⟩
      show catchpitref07_Number.l0 (k + 1) s _ _ = _
      rw [catchpitref07_Number.l0, if_neg (by omega), hww, if_pos hl, hb, valL_cons, if_pos (by omega)]
    · have hlt := valL_lt (s.data.toList.drop a) 0 (Int.le_refl _) hda
      have hp := pow10_ge 19 (s.data.toList.drop a).length (by rw [List.length_drop, data_length]; omega)
      have h19 : (10 : Int) ^ 19 = 10000000000000000000 := by decide
      have g := ref07_Number_l1 s hs (s.size - a) a 0 (by omega) rfl (Int.le_refl _) hda (by omega)
      refine ev_succ (ev_as g fun k => ?_)
      rw [catchpitref07_Number.l0, if_neg (by omega), hww, if_neg hl]
  | succ d ih =>
    intro i a h1 h2 h3 h4 h5 h6 h7
    obtain ⟨b, hb, hbt⟩ := drop_byte s i (by omega)
    have hw : wrap64 ((i : Int) + 1) = ((i + 1 : Nat) : Int) := by unfold wrap64; omega
    have hw2 : wrap64 ((a : Int) + 1) = ((a + 1 : Nat) : Int) := by unfold wrap64; omega
    have hw3 : wrap64 ((s.size : Int) - 1) = (s.size : Int) - 1 := by unfold wrap64; omega
    have htk : s.data.toList.take (i + 1) = s.data.toList.take i ++ [b] := by
      have h := List.take_append_drop i s.data.toList
      rw [hb] at h
      have hi : i < s.data.toList.length := by rw [data_length]; omega
      have e2 := List.drop_eq_getElem_cons hi
      rw [hb] at e2
      injection e2 with e2
      rw [List.take_succ_eq_append_getElem hi, ← e2]
    by_cases hd : digU b = true
    · have hc := digU_iff.1 hd
      have hall : (s.data.toList.take (i + 1)).all digU = true := by rw [htk, List.all_append, h7, List.all_cons, hd]; rfl
      have hj : ∀ k, catchpitref07_Number.l0 (k + 1) s (a : Int) (i : Int) = catchpitref07_Number.j1 k s (a : Int) (i : Int) false := fun k => by
        rw [catchpitref07_Number.l0, if_pos (by omega), if_pos (by omega), if_neg (by omega), decide_eq_false (by omega)]
      by_cases hz : bt s (i : Int) = 48 ∧ a = i ∧ (i : Int) < (s.size : Int) - 1
      · obtain ⟨z1, rfl, z3⟩ := hz
        have hb48 : b = 48 := UInt8.toNat_inj.1 (by show b.toNat = 48; omega)
        have g := ih (a + 1) (a + 1) (by omega) (by omega) (Nat.le_refl _) (by omega) (fun x hx => by
          rw [htk] at hx
          rcases List.mem_append.1 hx with h | h
          · exact h5 x h
          · rw [List.mem_singleton.1 h]; exact hb48) (fun h => absurd h (Nat.lt_irrefl _)) hall
        refine ev_succ (ev_as (ev_succ (g := fun k => catchpitref07_Number.j1 k s (a : Int) (a : Int) false) (ev_as g fun k => ?_)) hj)
        rw [catchpitref07_Number.j1, if_neg (by decide), if_pos (by omega), if_pos (by omega), if_pos z1, if_pos rfl, if_pos (by omega), hw]
      · have g := ih (i + 1) a (by omega) (by omega) (by omega) h4 h5 (fun ha hl => by
          rcases Nat.lt_or_ge a i with h | h
          · exact h6 h hl
          · obtain rfl : a = i := by omega
            exact fun e => hz ⟨e, rfl, by omega⟩) hall
        refine ev_succ (ev_as (ev_succ (g := fun k => catchpitref07_Number.j1 k s (a : Int) (i : Int) false) (ev_as g fun k => ?_)) hj)
        rw [catchpitref07_Number.j1, if_neg (by decide), if_pos (by omega), if_pos (by omega)]
        by_cases z1 : bt s (i : Int) = 48
        · rw [if_pos z1]
          by_cases z2 : (a : Int) = (i : Int)
          · rw [if_pos z2, hw3, if_neg (fun h => hz ⟨z1, by omega, h⟩), hw]
          · rw [if_neg z2, hw]
        · rw [if_neg z1, hw]
    · have hnd : ¬ (48 ≤ (b.toNat : Int) ∧ (b.toNat : Int) ≤ 57) := fun e => hd (digU_iff.2 e)
      have hbad : s.data.toList.all digU = false := by
        rw [← List.take_append_drop i s.data.toList, List.all_append, hb, List.all_cons, Bool.eq_false_iff.2 hd, Bool.false_and, Bool.and_false]
      rw [numR_eq, if_pos (.inl hbad)]
      refine ev_succ (ev_succ ⟨0, fun k _ => ?_⟩)
      show catchpitref07_Number.l0 (k + 1 + 1) s _ _ = _
      rw [catchpitref07_Number.l0, if_pos (by omega), if_pos (by omega)]
      by_cases hlow : bt s (i : Int) < 48
      · rw [if_pos hlow, catchpitref07_Number.j1, if_pos rfl]
      · rw [if_neg hlow, decide_eq_true (by omega), catchpitref07_Number.j1, if_pos rfl]
theorem ref07_Number (s : ByteArray) (hs : s.size ≤ 1000000000) : Ev (fun k => catchpitref07_Number.f k s) (numR s) := by
  by_cases h0 : s.size = 0
  · refine ⟨0, fun k _ => ?_⟩
    show catchpitref07_Number.f k s = _
    rw [catchpitref07_Number.f, if_pos (by omega), numR_eq, if_pos (.inr h0)]
  · have g := ref07_Number_l0 s hs (by omega) s.size 0 0 (Nat.zero_le _) rfl (Nat.le_refl _) (by omega) (by simp) (fun h => absurd h (Nat.lt_irrefl _)) rfl
    refine ev_as g fun k => ?_
    rw [catchpitref07_Number.f, if_neg (by omega)]
    rfl
end Go.Proofs.YtofegjgiocljlaaDoorH
end
