import Derived.Test.YtoanmbhenmlboaaDoorZExpectActsP3
import Derived.Test.YtoanmbhenmlboaaDoorZExpectActsP1
import Derived.Test.YtoanmbhenmlboaaDoorZExpectActsP4
section
namespace Go.Proofs.YtoanmbhenmlboaaDoor.Pr
open Go.RowKit Go.Proofs.YtoanmbhenmlboaaDoorH Go.Proofs.YtoanmbhenmlboaaDoorW.PrintWords Go.Proofs.YtoanmbhenmlboaaDoorW.PrintLast Go.Proofs.YtoanmbhenmlboaaDoorW.PrintMore
attribute [local go_sem] max2_int min2_int max_two min_two max_three min_three max_four min_four   -- for this text's walks alone
set_option linter.unusedVariables false
set_option linter.unusedSimpArgs false
mutual
def catchpitref07_Number.l0 : Nat → ByteArray → Int → Int → Option (Int × Int)
  | 0, _, _, _ => none
  | k + 1, x0, x4, x5 => if x5 < (x0.size : Int) then (if 0 ≤ x5 then (if (bt x0 x5) < 48 then (catchpitref07_Number.j1 k x0 x4 x5 true) else (catchpitref07_Number.j1 k x0 x4 x5 (decide ((bt x0 x5) > 57)))) else (none)) else (if (wrap64 ((x0.size : Int) - x4)) > 19 then (some (0, 3)) else (catchpitref07_Number.l1 k x0 0 x4))
def catchpitref07_Number.j1 : Nat → ByteArray → Int → Int → Bool → Option (Int × Int)
  | 0, _, _, _, _ => none
  | k + 1, x0, x4, x5, x26 => if x26 = true then (some (0, 2)) else (if 0 ≤ x5 then (if x5 < (x0.size : Int) then (if (bt x0 x5) = 48 then (if x4 = x5 then (if x5 < (wrap64 ((x0.size : Int) - 1)) then (catchpitref07_Number.l0 k x0 (wrap64 (x4 + 1)) (wrap64 (x5 + 1))) else (catchpitref07_Number.l0 k x0 x4 (wrap64 (x5 + 1)))) else (catchpitref07_Number.l0 k x0 x4 (wrap64 (x5 + 1)))) else (catchpitref07_Number.l0 k x0 x4 (wrap64 (x5 + 1)))) else (none)) else (none))
def catchpitref07_Number.l1 : Nat → ByteArray → Int → Int → Option (Int × Int)
  | 0, _, _, _ => none
  | k + 1, x0, x6, x7 => if x7 < (x0.size : Int) then (if 0 ≤ x7 then (catchpitref07_Number.l1 k x0 (IntKind.u64.wrap ((IntKind.u64.wrap (10 * x6)) + (((bt x0 x7) - 48) % 256))) (wrap64 (x7 + 1))) else (none)) else (if x6 > 4611686018427387903 then (some (0, 3)) else (some (x6, 0)))
end
def catchpitref07_Number.f (k : Nat) (a0 : ByteArray) : Option (Int × Int) := if (a0.size : Int) = 0 then (some (0, 2)) else (catchpitref07_Number.l0 k a0 0 0)
theorem catchpitref07_Number.mono_l : ∀ k, (∀ y0 y1 y2, LeO (catchpitref07_Number.l0 k y0 y1 y2) (catchpitref07_Number.l0 (k + 1) y0 y1 y2)) ∧ (∀ y0 y1 y2 y3, LeO (catchpitref07_Number.j1 k y0 y1 y2 y3) (catchpitref07_Number.j1 (k + 1) y0 y1 y2 y3)) ∧ (∀ y0 y1 y2, LeO (catchpitref07_Number.l1 k y0 y1 y2) (catchpitref07_Number.l1 (k + 1) y0 y1 y2))
  | 0 => ⟨fun _ _ _ r h => by simp [catchpitref07_Number.l0] at h, fun _ _ _ _ r h => by simp [catchpitref07_Number.j1] at h, fun _ _ _ r h => by simp [catchpitref07_Number.l1] at h⟩
  | k + 1 => by
    obtain ⟨ih0, ih1, ih2⟩ := catchpitref07_Number.mono_l k
    refine ⟨?_, ?_, ?_⟩
    · intro y0 y1 y2
      unfold catchpitref07_Number.l0
      repeat' first
      | (with_reducible exact ih0 _ _ _)
      | (with_reducible exact ih1 _ _ _ _)
      | (with_reducible exact ih2 _ _ _)
      | (with_reducible exact LeO.refl _)
      | (with_reducible exact LeO.none _)
      | (with_reducible refine LeO.ite ?_ ?_)
      | (with_reducible refine LeO.bind ?_ (fun _ => ?_))
      | exact ih0 _ _ _
      | exact ih1 _ _ _ _
      | exact ih2 _ _ _
      | exact LeO.none _
      | refine LeO.ite ?_ ?_
      | refine LeO.bind ?_ (fun _ => ?_)
    · intro y0 y1 y2 y3
      unfold catchpitref07_Number.j1
      repeat' first
      | (with_reducible exact ih0 _ _ _)
      | (with_reducible exact ih1 _ _ _ _)
      | (with_reducible exact ih2 _ _ _)
      | (with_reducible exact LeO.refl _)
      | (with_reducible exact LeO.none _)
      | (with_reducible refine LeO.ite ?_ ?_)
      | (with_reducible refine LeO.bind ?_ (fun _ => ?_))
      | exact ih0 _ _ _
      | exact ih1 _ _ _ _
      | exact ih2 _ _ _
      | exact LeO.none _
      | refine LeO.ite ?_ ?_
      | refine LeO.bind ?_ (fun _ => ?_)
    · intro y0 y1 y2
      unfold catchpitref07_Number.l1
      repeat' first
      | (with_reducible exact ih0 _ _ _)
      | (with_reducible exact ih1 _ _ _ _)
      | (with_reducible exact ih2 _ _ _)
      | (with_reducible exact LeO.refl _)
      | (with_reducible exact LeO.none _)
      | (with_reducible refine LeO.ite ?_ ?_)
      | (with_reducible refine LeO.bind ?_ (fun _ => ?_))
      | exact ih0 _ _ _
      | exact ih1 _ _ _ _
      | exact ih2 _ _ _
      | exact LeO.none _
      | refine LeO.ite ?_ ?_
      | refine LeO.bind ?_ (fun _ => ?_)
theorem catchpitref07_Number.mono : ∀ a0 k, LeO (catchpitref07_Number.f k a0) (catchpitref07_Number.f (k + 1) a0) := by
  intro a0 k
  obtain ⟨ih0, ih1, ih2⟩ := catchpitref07_Number.mono_l k
  unfold catchpitref07_Number.f
  repeat' first
      | (with_reducible exact ih0 _ _ _)
      | (with_reducible exact ih1 _ _ _ _)
      | (with_reducible exact ih2 _ _ _)
      | (with_reducible exact LeO.refl _)
      | (with_reducible exact LeO.none _)
      | (with_reducible refine LeO.ite ?_ ?_)
      | (with_reducible refine LeO.bind ?_ (fun _ => ?_))
      | exact ih0 _ _ _
      | exact ih1 _ _ _ _
      | exact ih2 _ _ _
      | exact LeO.none _
      | refine LeO.ite ?_ ?_
      | refine LeO.bind ?_ (fun _ => ?_)
end Go.Proofs.YtoanmbhenmlboaaDoor.Pr
end
section
namespace Go.Proofs.YtoanmbhenmlboaaDoor.Pr
open Go.RowKit Go.Proofs.YtoanmbhenmlboaaDoorH Go.Proofs.YtoanmbhenmlboaaDoorW.PrintWords Go.Proofs.YtoanmbhenmlboaaDoorW.PrintLast Go.Proofs.YtoanmbhenmlboaaDoorW.PrintMore
attribute [local go_sem] max2_int min2_int max_two min_two max_three min_three max_four min_four   -- for this text's walks alone
set_option linter.unusedVariables false
set_option linter.unusedSimpArgs false
mutual
def catchpitref07_Length.l0 : Nat → List ByteArray → Bool → Bool → Int → Int → Option (Int × Int)
  | 0, _, _, _, _, _ => none
  | k + 1, x0, x4, x5, x6, x7 => if x7 < (x0.length : Int) then (if 0 ≤ x7 then (if x7 ≤ (wrap64 (x7 + 1)) then (if (wrap64 (x7 + 1)) ≤ (x0.length : Int) then ((catchpitref07_Items.f k ((x0.take ((wrap64 (x7 + 1)) : Int).toNat).drop (x7 : Int).toNat)).bind fun t202 => (if (t202.length : Int) = 0 then (some (0, 2)) else (catchpitref07_Length.l1 k x0 x4 x5 x6 x7 t202 0))) else (none)) else (none)) else (none)) else (if x4 = true then (some (0, 3)) else (if x5 = true then (some (x6, 0)) else (some (0, 2))))
def catchpitref07_Length.l1 : Nat → List ByteArray → Bool → Bool → Int → Int → List ByteArray → Int → Option (Int × Int)
  | 0, _, _, _, _, _, _, _ => none
  | k + 1, x0, x4, x5, x6, x7, x8, x9 => if x9 < (x8.length : Int) then (if 0 ≤ x9 then ((catchpitref07_Number.f k (rdOf ByteArray.empty x8 x9)).bind fun bt206 => (if bt206.2 = 2 then (some (0, 2)) else (if bt206.2 = 3 then (if (wrap64 (x7 + x9)) > 0 then (if bt206.1 = x6 then (catchpitref07_Length.l1 k x0 true x5 bt206.1 x7 x8 (wrap64 (x9 + 1))) else (catchpitref07_Length.l1 k x0 true false bt206.1 x7 x8 (wrap64 (x9 + 1)))) else (catchpitref07_Length.l1 k x0 true x5 bt206.1 x7 x8 (wrap64 (x9 + 1)))) else (if (wrap64 (x7 + x9)) > 0 then (if bt206.1 = x6 then (catchpitref07_Length.l1 k x0 x4 x5 bt206.1 x7 x8 (wrap64 (x9 + 1))) else (catchpitref07_Length.l1 k x0 x4 false bt206.1 x7 x8 (wrap64 (x9 + 1)))) else (catchpitref07_Length.l1 k x0 x4 x5 bt206.1 x7 x8 (wrap64 (x9 + 1))))))) else (none)) else (catchpitref07_Length.l0 k x0 x4 x5 x6 (wrap64 (x7 + 1)))
end
def catchpitref07_Length.f (k : Nat) (l0 : List ByteArray) : Option (Int × Int) := if (l0.length : Int) = 0 then (some (0, 7)) else (catchpitref07_Length.l0 k l0 false true 0 0)
theorem catchpitref07_Length.mono_l : ∀ k, (∀ y0 y1 y2 y3 y4, LeO (catchpitref07_Length.l0 k y0 y1 y2 y3 y4) (catchpitref07_Length.l0 (k + 1) y0 y1 y2 y3 y4)) ∧ (∀ y0 y1 y2 y3 y4 y5 y6, LeO (catchpitref07_Length.l1 k y0 y1 y2 y3 y4 y5 y6) (catchpitref07_Length.l1 (k + 1) y0 y1 y2 y3 y4 y5 y6))
  | 0 => ⟨fun _ _ _ _ _ r h => by simp [catchpitref07_Length.l0] at h, fun _ _ _ _ _ _ _ r h => by simp [catchpitref07_Length.l1] at h⟩
  | k + 1 => by
    obtain ⟨ih0, ih1⟩ := catchpitref07_Length.mono_l k
    refine ⟨?_, ?_⟩
    · intro y0 y1 y2 y3 y4
      unfold catchpitref07_Length.l0
      repeat' first
      | (with_reducible exact ih0 _ _ _ _ _)
      | (with_reducible exact ih1 _ _ _ _ _ _ _)
      | (with_reducible exact catchpitref07_Items.mono _ _)
      | (with_reducible exact catchpitref07_Number.mono _ _)
      | (with_reducible exact LeO.refl _)
      | (with_reducible exact LeO.none _)
      | (with_reducible refine LeO.ite ?_ ?_)
      | (with_reducible refine LeO.bind ?_ (fun _ => ?_))
      | exact ih0 _ _ _ _ _
      | exact ih1 _ _ _ _ _ _ _
      | exact catchpitref07_Items.mono _ _
      | exact catchpitref07_Number.mono _ _
      | exact LeO.none _
      | refine LeO.ite ?_ ?_
      | refine LeO.bind ?_ (fun _ => ?_)
    · intro y0 y1 y2 y3 y4 y5 y6
      unfold catchpitref07_Length.l1
      repeat' first
      | (with_reducible exact ih0 _ _ _ _ _)
      | (with_reducible exact ih1 _ _ _ _ _ _ _)
      | (with_reducible exact catchpitref07_Items.mono _ _)
      | (with_reducible exact catchpitref07_Number.mono _ _)
      | (with_reducible exact LeO.refl _)
      | (with_reducible exact LeO.none _)
      | (with_reducible refine LeO.ite ?_ ?_)
      | (with_reducible refine LeO.bind ?_ (fun _ => ?_))
      | exact ih0 _ _ _ _ _
      | exact ih1 _ _ _ _ _ _ _
      | exact catchpitref07_Items.mono _ _
      | exact catchpitref07_Number.mono _ _
      | exact LeO.none _
      | refine LeO.ite ?_ ?_
      | refine LeO.bind ?_ (fun _ => ?_)
theorem catchpitref07_Length.mono : ∀ a0 k, LeO (catchpitref07_Length.f k a0) (catchpitref07_Length.f (k + 1) a0) := by
  intro a0 k
  obtain ⟨ih0, ih1⟩ := catchpitref07_Length.mono_l k
  unfold catchpitref07_Length.f
  repeat' first
      | (with_reducible exact ih0 _ _ _ _ _)
      | (with_reducible exact ih1 _ _ _ _ _ _ _)
      | (with_reducible exact catchpitref07_Items.mono _ _)
      | (with_reducible exact catchpitref07_Number.mono _ _)
      | (with_reducible exact LeO.refl _)
      | (with_reducible exact LeO.none _)
      | (with_reducible refine LeO.ite ?_ ?_)
      | (with_reducible refine LeO.bind ?_ (fun _ => ?_))
      | exact ih0 _ _ _ _ _
      | exact ih1 _ _ _ _ _ _ _
      | exact catchpitref07_Items.mono _ _
      | exact catchpitref07_Number.mono _ _
      | exact LeO.none _
      | refine LeO.ite ?_ ?_
      | refine LeO.bind ?_ (fun _ => ?_)
def catchpitref11_length.f (k : Nat) (l0 : List (S71)) (a1 : Int) : Option (Int × Int × Int) := (catchpitref05_Get.f k l0 (⟨#[99, 111, 110, 116, 101, 110, 116, 45, 108, 101, 110, 103, 116, 104]⟩ : ByteArray)).bind fun t209 => (if (t209.length : Int) = 0 then (some (a1, 0, 0)) else ((catchpitref07_Length.f k t209).bind fun bt212 => (if bt212.2 = 0 then (some (1, bt212.1, 0)) else (some (0, 0, bt212.2)))))
theorem catchpitref11_length.mono : ∀ a0 a1 k, LeO (catchpitref11_length.f k a0 a1) (catchpitref11_length.f (k + 1) a0 a1) := by
  intro a0 a1 k
  unfold catchpitref11_length.f
  repeat' first
      | (with_reducible exact catchpitref05_Get.mono _ _ _)
      | (with_reducible exact catchpitref07_Length.mono _ _)
      | (with_reducible exact LeO.refl _)
      | (with_reducible exact LeO.none _)
      | (with_reducible refine LeO.ite ?_ ?_)
      | (with_reducible refine LeO.bind ?_ (fun _ => ?_))
      | exact catchpitref05_Get.mono _ _ _
      | exact catchpitref07_Length.mono _ _
      | exact LeO.none _
      | refine LeO.ite ?_ ?_
      | refine LeO.bind ?_ (fun _ => ?_)
def catchpitref07_word.f (k : Nat) (a0 : ByteArray) : Option (ByteArray) := (catchpitref07_cut.f k a0 59).bind fun t214 => (if 0 < (t214.length : Int) then ((catchpitref02_Trim.f k (rdOf ByteArray.empty t214 0)).bind fun t218 => (some t218)) else (none))
theorem catchpitref07_word.mono : ∀ a0 k, LeO (catchpitref07_word.f k a0) (catchpitref07_word.f (k + 1) a0) := by
  intro a0 k
  unfold catchpitref07_word.f
  repeat' first
      | (with_reducible exact catchpitref02_Trim.mono _ _)
      | (with_reducible exact catchpitref07_cut.mono _ _ _)
      | (with_reducible exact LeO.refl _)
      | (with_reducible exact LeO.none _)
      | (with_reducible refine LeO.ite ?_ ?_)
      | (with_reducible refine LeO.bind ?_ (fun _ => ?_))
      | exact catchpitref02_Trim.mono _ _
      | exact catchpitref07_cut.mono _ _ _
      | exact LeO.none _
      | refine LeO.ite ?_ ?_
      | refine LeO.bind ?_ (fun _ => ?_)
set_option maxHeartbeats 8000000 in
set_option maxRecDepth 100000 in
theorem catchpitref07_word.calls (k : Nat) (a0 : ByteArray) (r : ByteArray) (w : World) (hG : TabOk w) (h : catchpitref07_word.f k a0 = some r) :
    Calls Tryd.prog 41 #[.string a0] w fun e w' => e = .returned (.string r) ∧ Below w.heap.size w w' := by
  have HB := Aside0.mk (Below.refl w.heap.size w)
  have H : ((catchpitref07_cut.f k a0 59).bind fun t214 => (if 0 < (t214.length : Int) then ((catchpitref02_Trim.f k (rdOf ByteArray.empty t214 0)).bind fun t218 => (some t218)) else (none))) = some r := h
  clear h
  replace H := Option.bind_eq_some_iff.mp H
  obtain ⟨t214, A20, H⟩ := H
  replace H : (if 0 < (t214.length : Int) then ((catchpitref02_Trim.f k (rdOf ByteArray.empty t214 0)).bind fun t218 => (some t218)) else (none)) = some r := H
  have A2 := Aside0.mk A20
  clear A20
  by_cases c3 : 0 < (t214.length : Int)
  · rw [if_pos c3] at H
    have c3b0 : decide (0 < (t214.length : Int)) = true := decide_eq_true c3
    have c3b1 : decide (0 < t214.length) = true := decide_eq_true (by omega)
    clear c3
    replace H := Option.bind_eq_some_iff.mp H
    obtain ⟨t218, A40, H⟩ := H
    replace H : (some t218) = some r := H
    have A4 := Aside0.mk A40
    clear A40
    obtain rfl := Option.some.inj H
    go_enter Tryd.func41, Tryd.ntmps41
    go_wp2_with (first | ((with_reducible refine gate_callee (f := 51) rfl ?_); refine goesL_ (some 4) rfl rfl Tryd.func51 (by kernel_rfl) rfl #[.string a0, .int .u8 59] rfl (by (try simp only [List.map_toArray, List.map_cons, List.map_nil]); first | done | rfl | (simp only [List.length_drop, List.length_take]; rfl)) ?_; (with_reducible refine (catchpitref07_cut.calls k a0 59 t214 _ ?side1 A2.out).mono ?_); (case side1 => first | exact hG | exact TabOk.drewN hG _ | exact TabOk.drewN (TabOk.drewN hG _) _ | exact TabOk.below hG (by repeat (first | (with_reducible first | exact HB.out | apply below_alloc | apply pw_below_drewN | apply below_drew1) | exact HB.out))); rintro e w5 ⟨v215, rfl, ho0, hb⟩; refine ⟨_, rfl, ?_⟩; have n0_ := Aside0.mk (Kd.R_lower ho0 (below_size (by repeat (first | (with_reducible first | exact HB.out | apply below_alloc | apply pw_below_drewN | apply below_drew1) | exact HB.out)))); have n1_ := Aside0.mk (below_step (by repeat (first | (with_reducible first | exact HB.out | apply below_alloc | apply pw_below_drewN | apply below_drew1) | exact HB.out)) hb); clear HB; have HO216 := n0_; have HB := n1_; clear n0_ n1_; (try clear hb); (try clear hb2); (try clear hk); (try clear hi); (try clear ho0); obtain ⟨Ao6, co6, eo6⟩ := Kd.R_slice HO216.out; subst eo6; have p217 : 0 ≤ (0 : Int) := (by omega); have q217 : 0 < (t214.length : Int) := of_decide_eq_true (by first | (with_reducible assumption) | assumption); obtain ⟨ad217, e217, hx217_0⟩ := Kd.at_string (Kd.R_reads' HO216.out).2.2 0 p217 q217; cases e217; have qi217 : (0 < t214.length) = True := eq_true (by omega); (try rw [show ((0 : Int)).toNat = 0 from rfl] at hx217_0); (try rw [Addr.add_zero'] at hx217_0); replace p217 := eq_true p217; replace q217 := eq_true q217) | ((with_reducible refine gate_callee (f := 52) rfl ?_); refine goesL_ (some 7) rfl rfl Tryd.func52 (by kernel_rfl) rfl #[.string (rdOf ByteArray.empty t214 0)] rfl (by (try simp only [List.map_toArray, List.map_cons, List.map_nil]); first | done | rfl | (simp only [List.length_drop, List.length_take]; rfl)) ?_; (with_reducible refine (catchpitref02_Trim.calls k (rdOf ByteArray.empty t214 0) t218 _ ?side1 A4.out).mono ?_); (case side1 => first | exact hG | exact TabOk.drewN hG _ | exact TabOk.drewN (TabOk.drewN hG _) _ | exact TabOk.below hG (by repeat (first | (with_reducible first | exact HB.out | apply below_alloc | apply pw_below_drewN | apply below_drew1) | exact HB.out))); rintro e w' ⟨rfl, ⟨nd, rfl⟩⟩; refine ⟨_, rfl, ?_⟩))
    go_ret
    exact ⟨by first | rfl | (simp [errW_none, errW_some] <;> rfl) | (simp [*, errW_none, errW_some] <;> rfl), by repeat (first | (with_reducible first | exact HB.out | apply below_alloc | apply pw_below_drewN | apply below_drew1) | exact HB.out)⟩
  · rw [if_neg c3] at H
    exact absurd H (by simp)
end Go.Proofs.YtoanmbhenmlboaaDoor.Pr
end
section
namespace Go.Proofs.YtoanmbhenmlboaaDoor.Pr
open Go.RowKit Go.Proofs.YtoanmbhenmlboaaDoorH Go.Proofs.YtoanmbhenmlboaaDoorW.PrintWords Go.Proofs.YtoanmbhenmlboaaDoorW.PrintLast Go.Proofs.YtoanmbhenmlboaaDoorW.PrintMore
attribute [local go_sem] max2_int min2_int max_two min_two max_three min_three max_four min_four   -- for this text's walks alone
set_option linter.unusedVariables false
set_option linter.unusedSimpArgs false
def catchpitref02_token.j0 : Nat → Int → Bool → Option (Bool)
  | 0, _, _ => none
  | k + 1, x0, x24 => if x24 = true then (some true) else (if x0 = 33 then (some true) else (if x0 = 35 then (some true) else (if x0 = 36 then (some true) else (if x0 = 37 then (some true) else (if x0 = 38 then (some true) else (if x0 = 39 then (some true) else (if x0 = 42 then (some true) else (if x0 = 43 then (some true) else (if x0 = 45 then (some true) else (if x0 = 46 then (some true) else (if x0 = 94 then (some true) else (if x0 = 95 then (some true) else (if x0 = 96 then (some true) else (if x0 = 124 then (some true) else (if x0 = 126 then (some true) else (some false))))))))))))))))
def catchpitref02_token.f (k : Nat) (a0 : Int) : Option (Bool) := if a0 ≥ 97 then (if a0 ≤ 122 then (catchpitref02_token.j0 k a0 true) else (if a0 ≥ 65 then (if a0 ≤ 90 then (catchpitref02_token.j0 k a0 true) else (if a0 ≥ 48 then (catchpitref02_token.j0 k a0 (decide (a0 ≤ 57))) else (catchpitref02_token.j0 k a0 false))) else (if a0 ≥ 48 then (catchpitref02_token.j0 k a0 (decide (a0 ≤ 57))) else (catchpitref02_token.j0 k a0 false)))) else (if a0 ≥ 65 then (if a0 ≤ 90 then (catchpitref02_token.j0 k a0 true) else (if a0 ≥ 48 then (catchpitref02_token.j0 k a0 (decide (a0 ≤ 57))) else (catchpitref02_token.j0 k a0 false))) else (if a0 ≥ 48 then (catchpitref02_token.j0 k a0 (decide (a0 ≤ 57))) else (catchpitref02_token.j0 k a0 false)))
theorem catchpitref02_token.mono_l : ∀ k, (∀ y0 y1, LeO (catchpitref02_token.j0 k y0 y1) (catchpitref02_token.j0 (k + 1) y0 y1))
  | 0 => fun _ _ r h => by simp [catchpitref02_token.j0] at h
  | k + 1 => by
    have ih0 := catchpitref02_token.mono_l k
    · intro y0 y1
      unfold catchpitref02_token.j0
      repeat' first
      | (with_reducible exact ih0 _ _)
      | (with_reducible exact LeO.refl _)
      | (with_reducible exact LeO.none _)
      | (with_reducible refine LeO.ite ?_ ?_)
      | (with_reducible refine LeO.bind ?_ (fun _ => ?_))
      | exact ih0 _ _
      | exact LeO.none _
      | refine LeO.ite ?_ ?_
      | refine LeO.bind ?_ (fun _ => ?_)
theorem catchpitref02_token.mono : ∀ a0 k, LeO (catchpitref02_token.f k a0) (catchpitref02_token.f (k + 1) a0) := by
  intro a0 k
  have ih0 := catchpitref02_token.mono_l k
  unfold catchpitref02_token.f
  repeat' first
      | (with_reducible exact ih0 _ _)
      | (with_reducible exact LeO.refl _)
      | (with_reducible exact LeO.none _)
      | (with_reducible refine LeO.ite ?_ ?_)
      | (with_reducible refine LeO.bind ?_ (fun _ => ?_))
      | exact ih0 _ _
      | exact LeO.none _
      | refine LeO.ite ?_ ?_
      | refine LeO.bind ?_ (fun _ => ?_)
def catchpitref02_Token.l0 : Nat → ByteArray → Int → Option (Bool)
  | 0, _, _ => none
  | k + 1, x0, x3 => if x3 < (x0.size : Int) then (if 0 ≤ x3 then ((catchpitref02_token.f k (bt x0 x3)).bind fun t219 => (if t219 = true then (catchpitref02_Token.l0 k x0 (wrap64 (x3 + 1))) else (some false))) else (none)) else (some (decide ((x0.size : Int) > 0)))
def catchpitref02_Token.f (k : Nat) (a0 : ByteArray) : Option (Bool) := catchpitref02_Token.l0 k a0 0
theorem catchpitref02_Token.mono_l : ∀ k, (∀ y0 y1, LeO (catchpitref02_Token.l0 k y0 y1) (catchpitref02_Token.l0 (k + 1) y0 y1))
  | 0 => fun _ _ r h => by simp [catchpitref02_Token.l0] at h
  | k + 1 => by
    have ih0 := catchpitref02_Token.mono_l k
    · intro y0 y1
      unfold catchpitref02_Token.l0
      repeat' first
      | (with_reducible exact ih0 _ _)
      | (with_reducible exact catchpitref02_token.mono _ _)
      | (with_reducible exact LeO.refl _)
      | (with_reducible exact LeO.none _)
      | (with_reducible refine LeO.ite ?_ ?_)
      | (with_reducible refine LeO.bind ?_ (fun _ => ?_))
      | exact ih0 _ _
      | exact catchpitref02_token.mono _ _
      | exact LeO.none _
      | refine LeO.ite ?_ ?_
      | refine LeO.bind ?_ (fun _ => ?_)
theorem catchpitref02_Token.mono : ∀ a0 k, LeO (catchpitref02_Token.f k a0) (catchpitref02_Token.f (k + 1) a0) := by
  intro a0 k
  have ih0 := catchpitref02_Token.mono_l k
  unfold catchpitref02_Token.f
  repeat' first
      | (with_reducible exact ih0 _ _)
      | (with_reducible exact catchpitref02_token.mono _ _)
      | (with_reducible exact LeO.refl _)
      | (with_reducible exact LeO.none _)
      | (with_reducible refine LeO.ite ?_ ?_)
      | (with_reducible refine LeO.bind ?_ (fun _ => ?_))
      | exact ih0 _ _
      | exact catchpitref02_token.mono _ _
      | exact LeO.none _
      | refine LeO.ite ?_ ?_
      | refine LeO.bind ?_ (fun _ => ?_)
def catchpitref07_Codings.l0 : Nat → List ByteArray → List ByteArray → Int → Option (List ByteArray × Int)
  | 0, _, _, _ => none
  | k + 1, x4, x5, x6 => if x6 < (x5.length : Int) then (if 0 ≤ x6 then ((catchpitref07_word.f k (rdOf ByteArray.empty x5 x6)).bind fun t224 => ((catchpitref02_Token.f k t224).bind fun t225 => (if t225 = true then ((catchpitref02_Small.f k t224).bind fun t226 => (if x4.length < 8796093022208 then (catchpitref07_Codings.l0 k (x4 ++ [t226]) x5 (wrap64 (x6 + 1))) else (none))) else (some (([] : List ByteArray), 2))))) else (none)) else (if (x4.length : Int) = 0 then (some (([] : List ByteArray), 2)) else (some (x4, 0)))
def catchpitref07_Codings.f (k : Nat) (l0 : List ByteArray) : Option (List ByteArray × Int) := if (l0.length : Int) = 0 then (some (([] : List ByteArray), 7)) else ((catchpitref07_Items.f k l0).bind fun t220 => (catchpitref07_Codings.l0 k ([] : List ByteArray) t220 0))
theorem catchpitref07_Codings.mono_l : ∀ k, (∀ y0 y1 y2, LeO (catchpitref07_Codings.l0 k y0 y1 y2) (catchpitref07_Codings.l0 (k + 1) y0 y1 y2))
  | 0 => fun _ _ _ r h => by simp [catchpitref07_Codings.l0] at h
  | k + 1 => by
    have ih0 := catchpitref07_Codings.mono_l k
    · intro y0 y1 y2
      unfold catchpitref07_Codings.l0
      repeat' first
      | (with_reducible exact ih0 _ _ _)
      | (with_reducible exact catchpitref02_Small.mono _ _)
      | (with_reducible exact catchpitref02_Token.mono _ _)
      | (with_reducible exact catchpitref07_Items.mono _ _)
      | (with_reducible exact catchpitref07_word.mono _ _)
      | (with_reducible exact LeO.refl _)
      | (with_reducible exact LeO.none _)
      | (with_reducible refine LeO.ite ?_ ?_)
      | (with_reducible refine LeO.bind ?_ (fun _ => ?_))
      | exact ih0 _ _ _
      | exact catchpitref02_Small.mono _ _
      | exact catchpitref02_Token.mono _ _
      | exact catchpitref07_Items.mono _ _
      | exact catchpitref07_word.mono _ _
      | exact LeO.none _
      | refine LeO.ite ?_ ?_
      | refine LeO.bind ?_ (fun _ => ?_)
theorem catchpitref07_Codings.mono : ∀ a0 k, LeO (catchpitref07_Codings.f k a0) (catchpitref07_Codings.f (k + 1) a0) := by
  intro a0 k
  have ih0 := catchpitref07_Codings.mono_l k
  unfold catchpitref07_Codings.f
  repeat' first
      | (with_reducible exact ih0 _ _ _)
      | (with_reducible exact catchpitref02_Small.mono _ _)
      | (with_reducible exact catchpitref02_Token.mono _ _)
      | (with_reducible exact catchpitref07_Items.mono _ _)
      | (with_reducible exact catchpitref07_word.mono _ _)
      | (with_reducible exact LeO.refl _)
      | (with_reducible exact LeO.none _)
      | (with_reducible refine LeO.ite ?_ ?_)
      | (with_reducible refine LeO.bind ?_ (fun _ => ?_))
      | exact ih0 _ _ _
      | exact catchpitref02_Small.mono _ _
      | exact catchpitref02_Token.mono _ _
      | exact catchpitref07_Items.mono _ _
      | exact catchpitref07_word.mono _ _
      | exact LeO.none _
      | refine LeO.ite ?_ ?_
      | refine LeO.bind ?_ (fun _ => ?_)
end Go.Proofs.YtoanmbhenmlboaaDoor.Pr
end
section
namespace Go.Proofs.YtoanmbhenmlboaaDoor.Pr
open Go.RowKit Go.Proofs.YtoanmbhenmlboaaDoorH Go.Proofs.YtoanmbhenmlboaaDoorW.PrintWords Go.Proofs.YtoanmbhenmlboaaDoorW.PrintLast Go.Proofs.YtoanmbhenmlboaaDoorW.PrintMore
attribute [local go_sem] max2_int min2_int max_two min_two max_three min_three max_four min_four   -- for this text's walks alone
set_option linter.unusedVariables false
set_option linter.unusedSimpArgs false
attribute [local go_sem high] eqA57
def catchpitref11_Request.f (k : Nat) (l0 : List (S71)) : Option (Int × Int × Int) := (catchpitref05_Get.f k l0 (⟨#[116, 114, 97, 110, 115, 102, 101, 114, 45, 101, 110, 99, 111, 100, 105, 110, 103]⟩ : ByteArray)).bind fun t231 => (if (t231.length : Int) = 0 then ((catchpitref11_length.f k l0 0).bind fun bt234 => (some (bt234.1, bt234.2.1, bt234.2.2))) else ((catchpitref07_Codings.f k t231).bind fun bt237 => (if bt237.2 = 0 then ((catchpitref05_Get.f k l0 (⟨#[99, 111, 110, 116, 101, 110, 116, 45, 108, 101, 110, 103, 116, 104]⟩ : ByteArray)).bind fun t241 => (if (t241.length : Int) > 0 then (some (0, 0, 2)) else (if (bt237.1.length : Int) = 1 then (if 0 < (bt237.1.length : Int) then (if (rdOf ByteArray.empty bt237.1 0).toList = ([99, 104, 117, 110, 107, 101, 100] : List UInt8) then (some (2, 0, 0)) else (some (0, 0, 2))) else (none)) else (some (0, 0, 2))))) else (some (0, 0, 2)))))
theorem catchpitref11_Request.mono : ∀ a0 k, LeO (catchpitref11_Request.f k a0) (catchpitref11_Request.f (k + 1) a0) := by
  intro a0 k
  unfold catchpitref11_Request.f
  repeat' first
      | (with_reducible exact catchpitref05_Get.mono _ _ _)
      | (with_reducible exact catchpitref07_Codings.mono _ _)
      | (with_reducible exact catchpitref11_length.mono _ _ _)
      | (with_reducible exact LeO.refl _)
      | (with_reducible exact LeO.none _)
      | (with_reducible refine LeO.ite ?_ ?_)
      | (with_reducible refine LeO.bind ?_ (fun _ => ?_))
      | exact catchpitref05_Get.mono _ _ _
      | exact catchpitref07_Codings.mono _ _
      | exact catchpitref11_length.mono _ _ _
      | exact LeO.none _
      | refine LeO.ite ?_ ?_
      | refine LeO.bind ?_ (fun _ => ?_)
def catchpitlaw11_FramingRequests.f (k : Nat) (l0 : List (S71)) : Option (Bool) := (catchpitlaw11_wakes.f k).bind fun t245 => (if t245 = true then ((catchpitref05_Great.f k l0).bind fun t246 => (if t246 = true then (some true) else ((framing_Request.f k l0).bind fun bt247 => ((catchpitref11_Request.f k l0).bind fun bt251 => (if (bt247.1 == bt251.1 && (bt247.2.1 == bt251.2.1)) = true then (some (bt247.2.2 == bt251.2.2)) else (some false)))))) else (some false))
theorem catchpitlaw11_FramingRequests.mono : ∀ a0 k, LeO (catchpitlaw11_FramingRequests.f k a0) (catchpitlaw11_FramingRequests.f (k + 1) a0) := by
  intro a0 k
  unfold catchpitlaw11_FramingRequests.f
  repeat' first
      | (with_reducible exact catchpitlaw11_wakes.mono _)
      | (with_reducible exact catchpitref05_Great.mono _ _)
      | (with_reducible exact catchpitref11_Request.mono _ _)
      | (with_reducible exact framing_Request.mono _ _)
      | (with_reducible exact LeO.refl _)
      | (with_reducible exact LeO.none _)
      | (with_reducible refine LeO.ite ?_ ?_)
      | (with_reducible refine LeO.bind ?_ (fun _ => ?_))
      | exact catchpitlaw11_wakes.mono _
      | exact catchpitref05_Great.mono _ _
      | exact catchpitref11_Request.mono _ _
      | exact framing_Request.mono _ _
      | exact LeO.none _
      | refine LeO.ite ?_ ?_
      | refine LeO.bind ?_ (fun _ => ?_)
def catchpitref11_Bodiless.f (a0 : ByteArray) (a1 : Int) : Option (Bool) := if a0.toList = ([72, 69, 65, 68] : List UInt8) then (some true) else (if a1 ≥ 100 then (if a1 < 200 then (some true) else (if a1 = 204 then (some true) else (if a1 = 304 then (some true) else (if a0.toList = ([67, 79, 78, 78, 69, 67, 84] : List UInt8) then (if a1 ≥ 200 then (some (decide (a1 < 300))) else (some false)) else (some false))))) else (if a1 = 204 then (some true) else (if a1 = 304 then (some true) else (if a0.toList = ([67, 79, 78, 78, 69, 67, 84] : List UInt8) then (if a1 ≥ 200 then (some (decide (a1 < 300))) else (some false)) else (some false)))))
end Go.Proofs.YtoanmbhenmlboaaDoor.Pr
end
section
namespace Go.Proofs.YtoanmbhenmlboaaDoor.Pr
open Go.RowKit Go.Proofs.YtoanmbhenmlboaaDoorH Go.Proofs.YtoanmbhenmlboaaDoorW.PrintWords Go.Proofs.YtoanmbhenmlboaaDoorW.PrintLast Go.Proofs.YtoanmbhenmlboaaDoorW.PrintMore
attribute [local go_sem] max2_int min2_int max_two min_two max_three min_three max_four min_four   -- for this text's walks alone
set_option linter.unusedVariables false
set_option linter.unusedSimpArgs false
mutual
def catchpitref11_Response.j0 : Nat → ByteArray → Int → List (S71) → Bool → Option (Int × Int × Int)
  | 0, _, _, _, _ => none
  | k + 1, x0, x1, x2, x18 => if x18 = true then (some (0, 0, 1)) else ((catchpitref11_Bodiless.f x0 x1).bind fun t256 => (if t256 = true then (some (0, 0, 0)) else ((catchpitref05_Get.f k x2 (⟨#[116, 114, 97, 110, 115, 102, 101, 114, 45, 101, 110, 99, 111, 100, 105, 110, 103]⟩ : ByteArray)).bind fun t257 => (if (t257.length : Int) = 0 then ((catchpitref11_length.f k x2 3).bind fun bt260 => (some (bt260.1, bt260.2.1, bt260.2.2))) else ((catchpitref07_Codings.f k t257).bind fun bt263 => (if bt263.2 = 0 then ((catchpitref05_Get.f k x2 (⟨#[99, 111, 110, 116, 101, 110, 116, 45, 108, 101, 110, 103, 116, 104]⟩ : ByteArray)).bind fun t267 => (catchpitref11_Response.j1 k bt263.1 (decide ((t267.length : Int) > 0)))) else (catchpitref11_Response.j1 k bt263.1 true)))))))
def catchpitref11_Response.j1 : Nat → List ByteArray → Bool → Option (Int × Int × Int)
  | 0, _, _ => none
  | k + 1, x9, x45 => if x45 = true then (some (0, 0, 2)) else (catchpitref11_Response.l0 k x9 0 0)
def catchpitref11_Response.l0 : Nat → List ByteArray → Int → Int → Option (Int × Int × Int)
  | 0, _, _, _ => none
  | k + 1, x9, x11, x12 => if x12 < (x9.length : Int) then (if 0 ≤ x12 then (if (rdOf ByteArray.empty x9 x12).toList = ([99, 104, 117, 110, 107, 101, 100] : List UInt8) then (catchpitref11_Response.l0 k x9 (wrap64 (x11 + 1)) (wrap64 (x12 + 1))) else (catchpitref11_Response.l0 k x9 x11 (wrap64 (x12 + 1)))) else (none)) else (if x11 = 0 then (some (3, 0, 0)) else (if x11 > 1 then (catchpitref11_Response.j3 k x9 true) else (if 0 ≤ (wrap64 ((x9.length : Int) - 1)) then (if (wrap64 ((x9.length : Int) - 1)) < (x9.length : Int) then (catchpitref11_Response.j3 k x9 ((rdOf ByteArray.empty x9 (wrap64 ((x9.length : Int) - 1))).toList != ([99, 104, 117, 110, 107, 101, 100] : List UInt8))) else (none)) else (none))))
def catchpitref11_Response.j3 : Nat → List ByteArray → Bool → Option (Int × Int × Int)
  | 0, _, _ => none
  | k + 1, x9, x73 => if x73 = true then (some (0, 0, 2)) else (if (x9.length : Int) > 1 then (some (0, 0, 5)) else (some (2, 0, 0)))
end
def catchpitref11_Response.f (k : Nat) (a0 : ByteArray) (a1 : Int) (l2 : List (S71)) : Option (Int × Int × Int) := if a1 < 100 then (catchpitref11_Response.j0 k a0 a1 l2 true) else (catchpitref11_Response.j0 k a0 a1 l2 (decide (a1 > 999)))
theorem catchpitref11_Response.mono_l : ∀ k, (∀ y0 y1 y2 y3, LeO (catchpitref11_Response.j0 k y0 y1 y2 y3) (catchpitref11_Response.j0 (k + 1) y0 y1 y2 y3)) ∧ (∀ y0 y1, LeO (catchpitref11_Response.j1 k y0 y1) (catchpitref11_Response.j1 (k + 1) y0 y1)) ∧ (∀ y0 y1 y2, LeO (catchpitref11_Response.l0 k y0 y1 y2) (catchpitref11_Response.l0 (k + 1) y0 y1 y2)) ∧ (∀ y0 y1, LeO (catchpitref11_Response.j3 k y0 y1) (catchpitref11_Response.j3 (k + 1) y0 y1))
  | 0 => ⟨fun _ _ _ _ r h => by simp [catchpitref11_Response.j0] at h, fun _ _ r h => by simp [catchpitref11_Response.j1] at h, fun _ _ _ r h => by simp [catchpitref11_Response.l0] at h, fun _ _ r h => by simp [catchpitref11_Response.j3] at h⟩
  | k + 1 => by
    obtain ⟨ih0, ih1, ih2, ih3⟩ := catchpitref11_Response.mono_l k
    refine ⟨?_, ?_, ?_, ?_⟩
    · intro y0 y1 y2 y3
      unfold catchpitref11_Response.j0
      repeat' first
      | (with_reducible exact ih0 _ _ _ _)
      | (with_reducible exact ih1 _ _)
      | (with_reducible exact ih2 _ _ _)
      | (with_reducible exact ih3 _ _)
      | (with_reducible exact catchpitref05_Get.mono _ _ _)
      | (with_reducible exact catchpitref07_Codings.mono _ _)
      | (with_reducible exact catchpitref11_length.mono _ _ _)
      | (with_reducible exact LeO.refl _)
      | (with_reducible exact LeO.none _)
      | (with_reducible refine LeO.ite ?_ ?_)
      | (with_reducible refine LeO.bind ?_ (fun _ => ?_))
      | exact ih0 _ _ _ _
      | exact ih1 _ _
      | exact ih2 _ _ _
      | exact ih3 _ _
      | exact catchpitref05_Get.mono _ _ _
      | exact catchpitref07_Codings.mono _ _
      | exact catchpitref11_length.mono _ _ _
      | exact LeO.none _
      | refine LeO.ite ?_ ?_
      | refine LeO.bind ?_ (fun _ => ?_)
    · intro y0 y1
      unfold catchpitref11_Response.j1
      repeat' first
      | (with_reducible exact ih0 _ _ _ _)
      | (with_reducible exact ih1 _ _)
      | (with_reducible exact ih2 _ _ _)
      | (with_reducible exact ih3 _ _)
      | (with_reducible exact catchpitref05_Get.mono _ _ _)
      | (with_reducible exact catchpitref07_Codings.mono _ _)
      | (with_reducible exact catchpitref11_length.mono _ _ _)
      | (with_reducible exact LeO.refl _)
      | (with_reducible exact LeO.none _)
      | (with_reducible refine LeO.ite ?_ ?_)
      | (with_reducible refine LeO.bind ?_ (fun _ => ?_))
      | exact ih0 _ _ _ _
      | exact ih1 _ _
      | exact ih2 _ _ _
      | exact ih3 _ _
      | exact catchpitref05_Get.mono _ _ _
      | exact catchpitref07_Codings.mono _ _
      | exact catchpitref11_length.mono _ _ _
      | exact LeO.none _
      | refine LeO.ite ?_ ?_
      | refine LeO.bind ?_ (fun _ => ?_)
    · intro y0 y1 y2
      unfold catchpitref11_Response.l0
      repeat' first
      | (with_reducible exact ih0 _ _ _ _)
      | (with_reducible exact ih1 _ _)
      | (with_reducible exact ih2 _ _ _)
      | (with_reducible exact ih3 _ _)
      | (with_reducible exact catchpitref05_Get.mono _ _ _)
      | (with_reducible exact catchpitref07_Codings.mono _ _)
      | (with_reducible exact catchpitref11_length.mono _ _ _)
      | (with_reducible exact LeO.refl _)
      | (with_reducible exact LeO.none _)
      | (with_reducible refine LeO.ite ?_ ?_)
      | (with_reducible refine LeO.bind ?_ (fun _ => ?_))
      | exact ih0 _ _ _ _
      | exact ih1 _ _
      | exact ih2 _ _ _
      | exact ih3 _ _
      | exact catchpitref05_Get.mono _ _ _
      | exact catchpitref07_Codings.mono _ _
      | exact catchpitref11_length.mono _ _ _
      | exact LeO.none _
      | refine LeO.ite ?_ ?_
      | refine LeO.bind ?_ (fun _ => ?_)
    · intro y0 y1
      unfold catchpitref11_Response.j3
      repeat' first
      | (with_reducible exact ih0 _ _ _ _)
      | (with_reducible exact ih1 _ _)
      | (with_reducible exact ih2 _ _ _)
      | (with_reducible exact ih3 _ _)
      | (with_reducible exact catchpitref05_Get.mono _ _ _)
      | (with_reducible exact catchpitref07_Codings.mono _ _)
      | (with_reducible exact catchpitref11_length.mono _ _ _)
      | (with_reducible exact LeO.refl _)
      | (with_reducible exact LeO.none _)
      | (with_reducible refine LeO.ite ?_ ?_)
      | (with_reducible refine LeO.bind ?_ (fun _ => ?_))
      | exact ih0 _ _ _ _
      | exact ih1 _ _
      | exact ih2 _ _ _
      | exact ih3 _ _
      | exact catchpitref05_Get.mono _ _ _
      | exact catchpitref07_Codings.mono _ _
      | exact catchpitref11_length.mono _ _ _
      | exact LeO.none _
      | refine LeO.ite ?_ ?_
      | refine LeO.bind ?_ (fun _ => ?_)
theorem catchpitref11_Response.mono : ∀ a0 a1 a2 k, LeO (catchpitref11_Response.f k a0 a1 a2) (catchpitref11_Response.f (k + 1) a0 a1 a2) := by
  intro a0 a1 a2 k
  obtain ⟨ih0, ih1, ih2, ih3⟩ := catchpitref11_Response.mono_l k
  unfold catchpitref11_Response.f
  repeat' first
      | (with_reducible exact ih0 _ _ _ _)
      | (with_reducible exact ih1 _ _)
      | (with_reducible exact ih2 _ _ _)
      | (with_reducible exact ih3 _ _)
      | (with_reducible exact catchpitref05_Get.mono _ _ _)
      | (with_reducible exact catchpitref07_Codings.mono _ _)
      | (with_reducible exact catchpitref11_length.mono _ _ _)
      | (with_reducible exact LeO.refl _)
      | (with_reducible exact LeO.none _)
      | (with_reducible refine LeO.ite ?_ ?_)
      | (with_reducible refine LeO.bind ?_ (fun _ => ?_))
      | exact ih0 _ _ _ _
      | exact ih1 _ _
      | exact ih2 _ _ _
      | exact ih3 _ _
      | exact catchpitref05_Get.mono _ _ _
      | exact catchpitref07_Codings.mono _ _
      | exact catchpitref11_length.mono _ _ _
      | exact LeO.none _
      | refine LeO.ite ?_ ?_
      | refine LeO.bind ?_ (fun _ => ?_)
end Go.Proofs.YtoanmbhenmlboaaDoor.Pr
end
section
namespace Go.Proofs.YtoanmbhenmlboaaDoor.Pr
open Go.RowKit Go.Proofs.YtoanmbhenmlboaaDoorH Go.Proofs.YtoanmbhenmlboaaDoorW.PrintWords Go.Proofs.YtoanmbhenmlboaaDoorW.PrintLast Go.Proofs.YtoanmbhenmlboaaDoorW.PrintMore
attribute [local go_sem] max2_int min2_int max_two min_two max_three min_three max_four min_four   -- for this text's walks alone
set_option linter.unusedVariables false
set_option linter.unusedSimpArgs false
attribute [local go_sem high] eqA57
def catchpitlaw11_FramingResponses.j0 : Nat → ByteArray → Int → List (S71) → Bool → Option (Bool)
  | 0, _, _, _, _ => none
  | k + 1, x0, x1, x2, x19 => if x19 = true then (some true) else ((framing_Response.f k x0 x1 x2).bind fun bt274 => ((catchpitref11_Response.f k x0 x1 x2).bind fun bt278 => (if (bt274.1 == bt278.1 && (bt274.2.1 == bt278.2.1)) = true then (if bt274.2.2 = bt278.2.2 then ((framing_Bodiless.f k x0 x1).bind fun t282 => ((catchpitref11_Bodiless.f x0 x1).bind fun t283 => (some (t282 == t283)))) else (some false)) else (some false))))
def catchpitlaw11_FramingResponses.f (k : Nat) (a0 : ByteArray) (a1 : Int) (l2 : List (S71)) : Option (Bool) := (catchpitlaw11_wakes.f k).bind fun t272 => (if t272 = true then ((catchpitref05_Great.f k l2).bind fun t273 => (if t273 = true then (catchpitlaw11_FramingResponses.j0 k a0 a1 l2 true) else (catchpitlaw11_FramingResponses.j0 k a0 a1 l2 (decide ((a0.size : Int) > 200))))) else (some false))
theorem catchpitlaw11_FramingResponses.mono_l : ∀ k, (∀ y0 y1 y2 y3, LeO (catchpitlaw11_FramingResponses.j0 k y0 y1 y2 y3) (catchpitlaw11_FramingResponses.j0 (k + 1) y0 y1 y2 y3))
  | 0 => fun _ _ _ _ r h => by simp [catchpitlaw11_FramingResponses.j0] at h
  | k + 1 => by
    have ih0 := catchpitlaw11_FramingResponses.mono_l k
    · intro y0 y1 y2 y3
      unfold catchpitlaw11_FramingResponses.j0
      repeat' first
      | (with_reducible exact ih0 _ _ _ _)
      | (with_reducible exact catchpitlaw11_wakes.mono _)
      | (with_reducible exact catchpitref05_Great.mono _ _)
      | (with_reducible exact catchpitref11_Response.mono _ _ _ _)
      | (with_reducible exact framing_Bodiless.mono _ _ _)
      | (with_reducible exact framing_Response.mono _ _ _ _)
      | (with_reducible exact LeO.refl _)
      | (with_reducible exact LeO.none _)
      | (with_reducible refine LeO.ite ?_ ?_)
      | (with_reducible refine LeO.bind ?_ (fun _ => ?_))
      | exact ih0 _ _ _ _
      | exact catchpitlaw11_wakes.mono _
      | exact catchpitref05_Great.mono _ _
      | exact catchpitref11_Response.mono _ _ _ _
      | exact framing_Bodiless.mono _ _ _
      | exact framing_Response.mono _ _ _ _
      | exact LeO.none _
      | refine LeO.ite ?_ ?_
      | refine LeO.bind ?_ (fun _ => ?_)
theorem catchpitlaw11_FramingResponses.mono : ∀ a0 a1 a2 k, LeO (catchpitlaw11_FramingResponses.f k a0 a1 a2) (catchpitlaw11_FramingResponses.f (k + 1) a0 a1 a2) := by
  intro a0 a1 a2 k
  have ih0 := catchpitlaw11_FramingResponses.mono_l k
  unfold catchpitlaw11_FramingResponses.f
  repeat' first
      | (with_reducible exact ih0 _ _ _ _)
      | (with_reducible exact catchpitlaw11_wakes.mono _)
      | (with_reducible exact catchpitref05_Great.mono _ _)
      | (with_reducible exact catchpitref11_Response.mono _ _ _ _)
      | (with_reducible exact framing_Bodiless.mono _ _ _)
      | (with_reducible exact framing_Response.mono _ _ _ _)
      | (with_reducible exact LeO.refl _)
      | (with_reducible exact LeO.none _)
      | (with_reducible refine LeO.ite ?_ ?_)
      | (with_reducible refine LeO.bind ?_ (fun _ => ?_))
      | exact ih0 _ _ _ _
      | exact catchpitlaw11_wakes.mono _
      | exact catchpitref05_Great.mono _ _
      | exact catchpitref11_Response.mono _ _ _ _
      | exact framing_Bodiless.mono _ _ _
      | exact framing_Response.mono _ _ _ _
      | exact LeO.none _
      | refine LeO.ite ?_ ?_
      | refine LeO.bind ?_ (fun _ => ?_)
mutual
def catchpitref05_Without.l0 : Nat → List (S71) → List ByteArray → List (S71) → Int → Option ((List (S71)))
  | 0, _, _, _, _ => none
  | k + 1, x0, x1, x5, x6 => if x6 < (x0.length : Int) then (if 0 ≤ x6 then (if x5.length < 4398046511104 then (catchpitref05_Without.l1 k x0 x1 (x5 ++ [(⟨(rd_T71 x0 x6).f0, (rd_T71 x0 x6).f1⟩ : S71)]) x6 0) else (none)) else (none)) else (some x5)
def catchpitref05_Without.l1 : Nat → List (S71) → List ByteArray → List (S71) → Int → Int → Option ((List (S71)))
  | 0, _, _, _, _, _ => none
  | k + 1, x0, x1, x5, x6, x7 => if x7 < (x1.length : Int) then (if 0 ≤ x6 then (if x6 < (x0.length : Int) then (if 0 ≤ x7 then ((catchpitref05_Is.f k ((rd_T71 x0 x6).f0) ((rd_T71 x0 x6).f1) (rdOf ByteArray.empty x1 x7)).bind fun t290 => (if t290 = true then (if 0 ≤ (wrap64 ((x5.length : Int) - 1)) then (if (wrap64 ((x5.length : Int) - 1)) ≤ (x5.length : Int) then (catchpitref05_Without.l0 k x0 x1 (x5.take ((wrap64 ((x5.length : Int) - 1)) : Int).toNat) (wrap64 (x6 + 1))) else (none)) else (none)) else (catchpitref05_Without.l1 k x0 x1 x5 x6 (wrap64 (x7 + 1))))) else (none)) else (none)) else (none)) else (catchpitref05_Without.l0 k x0 x1 x5 (wrap64 (x6 + 1)))
end
def catchpitref05_Without.f (k : Nat) (l0 : List (S71)) (l1 : List ByteArray) : Option ((List (S71))) := catchpitref05_Without.l0 k l0 l1 ([] : List (S71)) 0
theorem catchpitref05_Without.mono_l : ∀ k, (∀ y0 y1 y2 y3, LeO (catchpitref05_Without.l0 k y0 y1 y2 y3) (catchpitref05_Without.l0 (k + 1) y0 y1 y2 y3)) ∧ (∀ y0 y1 y2 y3 y4, LeO (catchpitref05_Without.l1 k y0 y1 y2 y3 y4) (catchpitref05_Without.l1 (k + 1) y0 y1 y2 y3 y4))
  | 0 => ⟨fun _ _ _ _ r h => by simp [catchpitref05_Without.l0] at h, fun _ _ _ _ _ r h => by simp [catchpitref05_Without.l1] at h⟩
  | k + 1 => by
    obtain ⟨ih0, ih1⟩ := catchpitref05_Without.mono_l k
    refine ⟨?_, ?_⟩
    · intro y0 y1 y2 y3
      unfold catchpitref05_Without.l0
      repeat' first
      | (with_reducible exact ih0 _ _ _ _)
      | (with_reducible exact ih1 _ _ _ _ _)
      | (with_reducible exact catchpitref05_Is.mono _ _ _ _)
      | (with_reducible exact LeO.refl _)
      | (with_reducible exact LeO.none _)
      | (with_reducible refine LeO.ite ?_ ?_)
      | (with_reducible refine LeO.bind ?_ (fun _ => ?_))
      | exact ih0 _ _ _ _
      | exact ih1 _ _ _ _ _
      | exact catchpitref05_Is.mono _ _ _ _
      | exact LeO.none _
      | refine LeO.ite ?_ ?_
      | refine LeO.bind ?_ (fun _ => ?_)
    · intro y0 y1 y2 y3 y4
      unfold catchpitref05_Without.l1
      repeat' first
      | (with_reducible exact ih0 _ _ _ _)
      | (with_reducible exact ih1 _ _ _ _ _)
      | (with_reducible exact catchpitref05_Is.mono _ _ _ _)
      | (with_reducible exact LeO.refl _)
      | (with_reducible exact LeO.none _)
      | (with_reducible refine LeO.ite ?_ ?_)
      | (with_reducible refine LeO.bind ?_ (fun _ => ?_))
      | exact ih0 _ _ _ _
      | exact ih1 _ _ _ _ _
      | exact catchpitref05_Is.mono _ _ _ _
      | exact LeO.none _
      | refine LeO.ite ?_ ?_
      | refine LeO.bind ?_ (fun _ => ?_)
theorem catchpitref05_Without.mono : ∀ a0 a1 k, LeO (catchpitref05_Without.f k a0 a1) (catchpitref05_Without.f (k + 1) a0 a1) := by
  intro a0 a1 k
  obtain ⟨ih0, ih1⟩ := catchpitref05_Without.mono_l k
  unfold catchpitref05_Without.f
  repeat' first
      | (with_reducible exact ih0 _ _ _ _)
      | (with_reducible exact ih1 _ _ _ _ _)
      | (with_reducible exact catchpitref05_Is.mono _ _ _ _)
      | (with_reducible exact LeO.refl _)
      | (with_reducible exact LeO.none _)
      | (with_reducible refine LeO.ite ?_ ?_)
      | (with_reducible refine LeO.bind ?_ (fun _ => ?_))
      | exact ih0 _ _ _ _
      | exact ih1 _ _ _ _ _
      | exact catchpitref05_Is.mono _ _ _ _
      | exact LeO.none _
      | refine LeO.ite ?_ ?_
      | refine LeO.bind ?_ (fun _ => ?_)
end Go.Proofs.YtoanmbhenmlboaaDoor.Pr
end
section
namespace Go.Proofs.YtoanmbhenmlboaaDoor.Pr
open Go.RowKit Go.Proofs.YtoanmbhenmlboaaDoorH Go.Proofs.YtoanmbhenmlboaaDoorW.PrintWords Go.Proofs.YtoanmbhenmlboaaDoorW.PrintLast Go.Proofs.YtoanmbhenmlboaaDoorW.PrintMore
attribute [local go_sem] max2_int min2_int max_two min_two max_three min_three max_four min_four   -- for this text's walks alone
set_option linter.unusedVariables false
set_option linter.unusedSimpArgs false
attribute [local go_sem high] eqA57
def catchpitlaw11_FramingPlain.j0 : Nat → Int → List (S71) → Bool → Option (Bool)
  | 0, _, _, _ => none
  | k + 1, x0, x1, x29 => if x29 = true then (some true) else ((catchpitref05_Without.f k x1 (([(⟨#[84, 114, 97, 110, 115, 102, 101, 114, 45, 69, 110, 99, 111, 100, 105, 110, 103]⟩ : ByteArray), (⟨#[67, 111, 110, 116, 101, 110, 116, 45, 76, 101, 110, 103, 116, 104]⟩ : ByteArray)] : List ByteArray))).bind fun t299 => ((framing_Request.f k t299).bind fun bt302 => ((framing_Response.f k (⟨#[71, 69, 84]⟩ : ByteArray) x0 t299).bind fun bt306 => (if bt302.2.2 = 0 then (if bt306.2.2 = 0 then (if (bt302.1 == 0 && (bt302.2.1 == 0)) = true then (some (bt306.1 == 3 && (bt306.2.1 == 0))) else (some false)) else (some false)) else (some false)))))
def catchpitlaw11_FramingPlain.f (k : Nat) (a0 : Int) (l1 : List (S71)) : Option (Bool) := (catchpitlaw11_wakes.f k).bind fun t294 => (if t294 = true then ((catchpitref05_Great.f k l1).bind fun t295 => (if t295 = true then (catchpitlaw11_FramingPlain.j0 k a0 l1 true) else (if a0 < 200 then (catchpitlaw11_FramingPlain.j0 k a0 l1 true) else (if a0 > 999 then (catchpitlaw11_FramingPlain.j0 k a0 l1 true) else (if a0 = 204 then (catchpitlaw11_FramingPlain.j0 k a0 l1 true) else (catchpitlaw11_FramingPlain.j0 k a0 l1 (a0 == 304))))))) else (some false))
theorem catchpitlaw11_FramingPlain.mono_l : ∀ k, (∀ y0 y1 y2, LeO (catchpitlaw11_FramingPlain.j0 k y0 y1 y2) (catchpitlaw11_FramingPlain.j0 (k + 1) y0 y1 y2))
  | 0 => fun _ _ _ r h => by simp [catchpitlaw11_FramingPlain.j0] at h
  | k + 1 => by
    have ih0 := catchpitlaw11_FramingPlain.mono_l k
    · intro y0 y1 y2
      unfold catchpitlaw11_FramingPlain.j0
      repeat' first
      | (with_reducible exact ih0 _ _ _)
      | (with_reducible exact catchpitlaw11_wakes.mono _)
      | (with_reducible exact catchpitref05_Great.mono _ _)
      | (with_reducible exact catchpitref05_Without.mono _ _ _)
      | (with_reducible exact framing_Request.mono _ _)
      | (with_reducible exact framing_Response.mono _ _ _ _)
      | (with_reducible exact LeO.refl _)
      | (with_reducible exact LeO.none _)
      | (with_reducible refine LeO.ite ?_ ?_)
      | (with_reducible refine LeO.bind ?_ (fun _ => ?_))
      | exact ih0 _ _ _
      | exact catchpitlaw11_wakes.mono _
      | exact catchpitref05_Great.mono _ _
      | exact catchpitref05_Without.mono _ _ _
      | exact framing_Request.mono _ _
      | exact framing_Response.mono _ _ _ _
      | exact LeO.none _
      | refine LeO.ite ?_ ?_
      | refine LeO.bind ?_ (fun _ => ?_)
theorem catchpitlaw11_FramingPlain.mono : ∀ a0 a1 k, LeO (catchpitlaw11_FramingPlain.f k a0 a1) (catchpitlaw11_FramingPlain.f (k + 1) a0 a1) := by
  intro a0 a1 k
  have ih0 := catchpitlaw11_FramingPlain.mono_l k
  unfold catchpitlaw11_FramingPlain.f
  repeat' first
      | (with_reducible exact ih0 _ _ _)
      | (with_reducible exact catchpitlaw11_wakes.mono _)
      | (with_reducible exact catchpitref05_Great.mono _ _)
      | (with_reducible exact catchpitref05_Without.mono _ _ _)
      | (with_reducible exact framing_Request.mono _ _)
      | (with_reducible exact framing_Response.mono _ _ _ _)
      | (with_reducible exact LeO.refl _)
      | (with_reducible exact LeO.none _)
      | (with_reducible refine LeO.ite ?_ ?_)
      | (with_reducible refine LeO.bind ?_ (fun _ => ?_))
      | exact ih0 _ _ _
      | exact catchpitlaw11_wakes.mono _
      | exact catchpitref05_Great.mono _ _
      | exact catchpitref05_Without.mono _ _ _
      | exact framing_Request.mono _ _
      | exact framing_Response.mono _ _ _ _
      | exact LeO.none _
      | refine LeO.ite ?_ ?_
      | refine LeO.bind ?_ (fun _ => ?_)
def catchpitref07_Has.l0 : Nat → ByteArray → List ByteArray → Int → Option (Bool)
  | 0, _, _, _ => none
  | k + 1, x0, x5, x6 => if x6 < (x5.length : Int) then (if 0 ≤ x6 then ((catchpitref07_word.f k (rdOf ByteArray.empty x5 x6)).bind fun t314 => ((catchpitref02_Small.f k t314).bind fun t315 => ((catchpitref02_Small.f k x0).bind fun t316 => (if t315.toList = t316.toList then (some true) else (catchpitref07_Has.l0 k x0 x5 (wrap64 (x6 + 1))))))) else (none)) else (some false)
def catchpitref07_Has.f (k : Nat) (a0 : ByteArray) (l1 : List ByteArray) : Option (Bool) := (catchpitref07_Items.f k l1).bind fun t310 => (catchpitref07_Has.l0 k a0 t310 0)
theorem catchpitref07_Has.mono_l : ∀ k, (∀ y0 y1 y2, LeO (catchpitref07_Has.l0 k y0 y1 y2) (catchpitref07_Has.l0 (k + 1) y0 y1 y2))
  | 0 => fun _ _ _ r h => by simp [catchpitref07_Has.l0] at h
  | k + 1 => by
    have ih0 := catchpitref07_Has.mono_l k
    · intro y0 y1 y2
      unfold catchpitref07_Has.l0
      repeat' first
      | (with_reducible exact ih0 _ _ _)
      | (with_reducible exact catchpitref02_Small.mono _ _)
      | (with_reducible exact catchpitref07_Items.mono _ _)
      | (with_reducible exact catchpitref07_word.mono _ _)
      | (with_reducible exact LeO.refl _)
      | (with_reducible exact LeO.none _)
      | (with_reducible refine LeO.ite ?_ ?_)
      | (with_reducible refine LeO.bind ?_ (fun _ => ?_))
      | exact ih0 _ _ _
      | exact catchpitref02_Small.mono _ _
      | exact catchpitref07_Items.mono _ _
      | exact catchpitref07_word.mono _ _
      | exact LeO.none _
      | refine LeO.ite ?_ ?_
      | refine LeO.bind ?_ (fun _ => ?_)
theorem catchpitref07_Has.mono : ∀ a0 a1 k, LeO (catchpitref07_Has.f k a0 a1) (catchpitref07_Has.f (k + 1) a0 a1) := by
  intro a0 a1 k
  have ih0 := catchpitref07_Has.mono_l k
  unfold catchpitref07_Has.f
  repeat' first
      | (with_reducible exact ih0 _ _ _)
      | (with_reducible exact catchpitref02_Small.mono _ _)
      | (with_reducible exact catchpitref07_Items.mono _ _)
      | (with_reducible exact catchpitref07_word.mono _ _)
      | (with_reducible exact LeO.refl _)
      | (with_reducible exact LeO.none _)
      | (with_reducible refine LeO.ite ?_ ?_)
      | (with_reducible refine LeO.bind ?_ (fun _ => ?_))
      | exact ih0 _ _ _
      | exact catchpitref02_Small.mono _ _
      | exact catchpitref07_Items.mono _ _
      | exact catchpitref07_word.mono _ _
      | exact LeO.none _
      | refine LeO.ite ?_ ?_
      | refine LeO.bind ?_ (fun _ => ?_)
set_option maxHeartbeats 8000000 in
set_option maxRecDepth 100000 in
theorem catchpitref07_Has.calls (k : Nat) (a0 : ByteArray) (A1 : Option Addr) (c1 : Nat) (l1 : List ByteArray) (r : Bool) (w : World) (hr1 : Kd.C Kd.string w A1 l1.length l1) (hc1 : l1.length ≤ c1) (hG : TabOk w) (h : catchpitref07_Has.f k a0 l1 = some r) :
    Calls Tryd.prog 17 #[.string a0, .slice A1 l1.length c1] w fun e w' => e = .returned (.bool r) ∧ Below w.heap.size w w' := by
  have HR1 := Aside0.mk hr1
  have HC1 := Aside0.mk hc1
  clear hr1 hc1
  have HB := Aside0.mk (Below.refl w.heap.size w)
  have H : ((catchpitref07_Items.f k l1).bind fun t310 => (catchpitref07_Has.l0 k a0 t310 0)) = some r := h
  clear h
  replace H := Option.bind_eq_some_iff.mp H
  obtain ⟨t310, A30, H⟩ := H
  replace H : (catchpitref07_Has.l0 k a0 t310 0) = some r := H
  have A3 := Aside0.mk A30
  clear A30
  have H' := Aside0.mk H
  clear H
  go_enter Tryd.func17, Tryd.ntmps17
  go_wp2_with (first | ((with_reducible refine gate_callee (f := 39) rfl ?_); refine goesL_ (some 8) rfl rfl Tryd.func39 (by kernel_rfl) rfl #[.slice A1 l1.length c1] rfl (by (try simp only [List.map_toArray, List.map_cons, List.map_nil]); first | done | rfl | (simp only [List.length_drop, List.length_take]; rfl)) ?_; (with_reducible refine (catchpitref07_Items.calls k _ _ l1 t310 _ ?side1 ?side2 ?side3 A3.out).mono ?_); (case side1 => repeat (first | exact HR1.out | (with_reducible refine Kd.C_alloc ?_ _) | (with_reducible refine Kd.C_drewN ?_ _) | (with_reducible refine Kd.C_drew ?_))); (case side2 => exact HC1.out); (case side3 => first | exact hG | exact TabOk.drewN hG _ | exact TabOk.drewN (TabOk.drewN hG _) _ | exact TabOk.below hG (by repeat (first | (with_reducible first | exact HB.out | apply below_alloc | apply pw_below_drewN | apply below_drew1) | exact HB.out))); rintro e w4 ⟨v311, rfl, ho0, hb⟩; refine ⟨_, rfl, ?_⟩; have n0_ := Aside0.mk (Kd.R_lower ho0 (below_size (by repeat (first | (with_reducible first | exact HB.out | apply below_alloc | apply pw_below_drewN | apply below_drew1) | exact HB.out)))); have n1_ := Aside0.mk (below_step (by repeat (first | (with_reducible first | exact HB.out | apply below_alloc | apply pw_below_drewN | apply below_drew1) | exact HB.out)) hb); clear HB; have HO312 := n0_; have HB := n1_; clear n0_ n1_; (try clear hb); (try clear hb2); (try clear hk); (try clear hi); (try clear ho0)))
  go_loopg [6] k (fun kq v6 w' => ∃ (x6_1 : Int), v6 = .int .i64 x6_1 ∧ Aside0 (catchpitref07_Has.l0 kq a0 t310 x6_1 = some r) ∧ Aside0 (kq ≤ k) ∧ Aside0 (Kd.R Kd.string 9 w' w.heap.size (fun _ => True) v311 t310) ∧ Aside0 (Below w.heap.size w w'))
  case atStart => exact ⟨(0), (by first | rfl | (simp; done) | (simp [*]; done)), H', ⟨Nat.le_refl _⟩, ⟨by (with_reducible repeat (first | apply Kd.R_alloc | apply Kd.R_drewN | apply Kd.R_drew)); exact HO312.out⟩, ⟨by repeat (first | (with_reducible first | exact HB.out | apply below_alloc | apply pw_below_drewN | apply below_drew1) | exact HB.out)⟩⟩
  case round =>
    clear H'
    try clear c1
    try clear p2
    try clear c3
    obtain ⟨x6_1, rfl, HA, HK1, HO_5, HB⟩ := hrel
    cases gk with
    | zero => exact absurd HA.out (by simp [catchpitref07_Has.l0])
    | succ k1 =>
      have H := HA.out
      clear HA
      simp only [catchpitref07_Has.l0] at H
      by_cases c5 : x6_1 < (t310.length : Int)
      · rw [if_pos c5] at H
        have c5b0 : decide (x6_1 < (t310.length : Int)) = true := decide_eq_true c5
        clear c5
        by_cases c6 : 0 ≤ x6_1
        · rw [if_pos c6] at H
          have c6b0 : decide (0 ≤ x6_1) = true := decide_eq_true c6
          clear c6
          replace H := Option.bind_eq_some_iff.mp H
          obtain ⟨t314, A70, H⟩ := H
          replace H : ((catchpitref02_Small.f k1 t314).bind fun t315 => ((catchpitref02_Small.f k1 a0).bind fun t316 => (if t315.toList = t316.toList then (some true) else (catchpitref07_Has.l0 k1 a0 t310 (wrap64 (x6_1 + 1)))))) = some r := H
          have A7 := Aside0.mk A70
          clear A70
          replace H := Option.bind_eq_some_iff.mp H
          obtain ⟨t315, A80, H⟩ := H
          replace H : ((catchpitref02_Small.f k1 a0).bind fun t316 => (if t315.toList = t316.toList then (some true) else (catchpitref07_Has.l0 k1 a0 t310 (wrap64 (x6_1 + 1))))) = some r := H
          have A8 := Aside0.mk A80
          clear A80
          replace H := Option.bind_eq_some_iff.mp H
          obtain ⟨t316, A90, H⟩ := H
          replace H : (if t315.toList = t316.toList then (some true) else (catchpitref07_Has.l0 k1 a0 t310 (wrap64 (x6_1 + 1)))) = some r := H
          have A9 := Aside0.mk A90
          clear A90
          by_cases c10 : t315.toList = t316.toList
          · rw [if_pos c10] at H
            have c10b0 : (t315.toList == t316.toList) = true := beq_iff_eq.mpr c10
            have c10b1 : (t315.toList != t316.toList) = false := bne_eq_false_iff_eq.mpr c10
            clear c10
            obtain rfl := Option.some.inj H
            obtain ⟨Ao11, co11, eo11⟩ := Kd.R_slice HO_5.out
            subst eo11
            have p313 : 0 ≤ (x6_1 : Int) := of_decide_eq_true (by first | (with_reducible assumption) | assumption)
            have q313 : x6_1 < (t310.length : Int) := of_decide_eq_true (by first | (with_reducible assumption) | assumption)
            obtain ⟨ad313, e313, hx313_0⟩ := Kd.at_string (Kd.R_reads' HO_5.out).2.2 x6_1 p313 q313
            cases e313
            replace p313 := eq_true p313
            replace q313 := eq_true q313
            go_wp2_with (first | ((with_reducible refine gate_callee (f := 41) rfl ?_); refine goesL_ (some 19) rfl rfl Tryd.func41 (by kernel_rfl) rfl #[.string (rdOf ByteArray.empty t310 x6_1)] rfl (by (try simp only [List.map_toArray, List.map_cons, List.map_nil]); first | done | rfl | (simp only [List.length_drop, List.length_take]; rfl)) ?_; (with_reducible refine (catchpitref07_word.calls k1 (rdOf ByteArray.empty t310 x6_1) t314 _ ?side1 A7.out).mono ?_); (case side1 => first | exact hG | exact TabOk.drewN hG _ | exact TabOk.drewN (TabOk.drewN hG _) _ | exact TabOk.below hG (by repeat (first | (with_reducible first | exact HB.out | apply below_alloc | apply pw_below_drewN | apply below_drew1) | exact HB.out))); rintro e w12 ⟨rfl, hb⟩; refine ⟨_, rfl, ?_⟩; have n0_ := Aside0.mk (Kd.R_below (by (with_reducible repeat (first | apply Kd.R_alloc | apply Kd.R_drewN | apply Kd.R_drew)); exact HO_5.out) hb); have n1_ := Aside0.mk (below_step (by repeat (first | (with_reducible first | exact HB.out | apply below_alloc | apply pw_below_drewN | apply below_drew1) | exact HB.out)) hb); clear HO_5; clear HB; have HO_5 := n0_; have HB := n1_; clear n0_ n1_; (try clear hb); (try clear hb2); (try clear hk); (try clear hi)) | ((with_reducible refine gate_callee (f := 40) rfl ?_); refine goesL_ (some 20) rfl rfl Tryd.func40 (by kernel_rfl) rfl #[.string t314] rfl (by (try simp only [List.map_toArray, List.map_cons, List.map_nil]); first | done | rfl | (simp only [List.length_drop, List.length_take]; rfl)) ?_; (with_reducible refine (catchpitref02_Small.calls k1 t314 t315 _ ?side1 A8.out).mono ?_); (case side1 => first | exact hG | exact TabOk.drewN hG _ | exact TabOk.drewN (TabOk.drewN hG _) _ | exact TabOk.below hG (by repeat (first | (with_reducible first | exact HB.out | apply below_alloc | apply pw_below_drewN | apply below_drew1) | exact HB.out))); rintro e w13 ⟨rfl, hb⟩; refine ⟨_, rfl, ?_⟩; have n0_ := Aside0.mk (Kd.R_below (by (with_reducible repeat (first | apply Kd.R_alloc | apply Kd.R_drewN | apply Kd.R_drew)); exact HO_5.out) hb); have n1_ := Aside0.mk (below_step (by repeat (first | (with_reducible first | exact HB.out | apply below_alloc | apply pw_below_drewN | apply below_drew1) | exact HB.out)) hb); clear HO_5; clear HB; have HO_5 := n0_; have HB := n1_; clear n0_ n1_; (try clear hb); (try clear hb2); (try clear hk); (try clear hi)) | ((with_reducible refine gate_callee (f := 40) rfl ?_); refine goesL_ (some 22) rfl rfl Tryd.func40 (by kernel_rfl) rfl #[.string a0] rfl (by (try simp only [List.map_toArray, List.map_cons, List.map_nil]); first | done | rfl | (simp only [List.length_drop, List.length_take]; rfl)) ?_; (with_reducible refine (catchpitref02_Small.calls k1 a0 t316 _ ?side1 A9.out).mono ?_); (case side1 => first | exact hG | exact TabOk.drewN hG _ | exact TabOk.drewN (TabOk.drewN hG _) _ | exact TabOk.below hG (by repeat (first | (with_reducible first | exact HB.out | apply below_alloc | apply pw_below_drewN | apply below_drew1) | exact HB.out))); rintro e w14 ⟨rfl, hb⟩; refine ⟨_, rfl, ?_⟩; have n0_ := Aside0.mk (Kd.R_below (by (with_reducible repeat (first | apply Kd.R_alloc | apply Kd.R_drewN | apply Kd.R_drew)); exact HO_5.out) hb); have n1_ := Aside0.mk (below_step (by repeat (first | (with_reducible first | exact HB.out | apply below_alloc | apply pw_below_drewN | apply below_drew1) | exact HB.out)) hb); clear HO_5; clear HB; have HO_5 := n0_; have HB := n1_; clear n0_ n1_; (try clear hb); (try clear hb2); (try clear hk); (try clear hi)))
            go_ret
            exact ⟨by first | rfl | (simp [errW_none, errW_some] <;> rfl) | (simp [*, errW_none, errW_some] <;> rfl), by repeat (first | (with_reducible first | exact HB.out | apply below_alloc | apply pw_below_drewN | apply below_drew1) | exact HB.out)⟩
          · rw [if_neg c10] at H
            have c10b0 : (t315.toList == t316.toList) = false := beq_eq_false_iff_ne.mpr c10
            have c10b1 : (t315.toList != t316.toList) = true := bne_iff_ne.mpr c10
            have H' := Aside0.mk H
            clear H
            obtain ⟨Ao15, co15, eo15⟩ := Kd.R_slice HO_5.out
            subst eo15
            have p313 : 0 ≤ (x6_1 : Int) := of_decide_eq_true (by first | (with_reducible assumption) | assumption)
            have q313 : x6_1 < (t310.length : Int) := of_decide_eq_true (by first | (with_reducible assumption) | assumption)
            obtain ⟨ad313, e313, hx313_0⟩ := Kd.at_string (Kd.R_reads' HO_5.out).2.2 x6_1 p313 q313
            cases e313
            replace p313 := eq_true p313
            replace q313 := eq_true q313
            go_wp2_with (first | ((with_reducible refine gate_callee (f := 41) rfl ?_); refine goesL_ (some 19) rfl rfl Tryd.func41 (by kernel_rfl) rfl #[.string (rdOf ByteArray.empty t310 x6_1)] rfl (by (try simp only [List.map_toArray, List.map_cons, List.map_nil]); first | done | rfl | (simp only [List.length_drop, List.length_take]; rfl)) ?_; (with_reducible refine (catchpitref07_word.calls k1 (rdOf ByteArray.empty t310 x6_1) t314 _ ?side1 A7.out).mono ?_); (case side1 => first | exact hG | exact TabOk.drewN hG _ | exact TabOk.drewN (TabOk.drewN hG _) _ | exact TabOk.below hG (by repeat (first | (with_reducible first | exact HB.out | apply below_alloc | apply pw_below_drewN | apply below_drew1) | exact HB.out))); rintro e w16 ⟨rfl, hb⟩; refine ⟨_, rfl, ?_⟩; have n0_ := Aside0.mk (Kd.R_below (by (with_reducible repeat (first | apply Kd.R_alloc | apply Kd.R_drewN | apply Kd.R_drew)); exact HO_5.out) hb); have n1_ := Aside0.mk (below_step (by repeat (first | (with_reducible first | exact HB.out | apply below_alloc | apply pw_below_drewN | apply below_drew1) | exact HB.out)) hb); clear HO_5; clear HB; have HO_5 := n0_; have HB := n1_; clear n0_ n1_; (try clear hb); (try clear hb2); (try clear hk); (try clear hi)) | ((with_reducible refine gate_callee (f := 40) rfl ?_); refine goesL_ (some 20) rfl rfl Tryd.func40 (by kernel_rfl) rfl #[.string t314] rfl (by (try simp only [List.map_toArray, List.map_cons, List.map_nil]); first | done | rfl | (simp only [List.length_drop, List.length_take]; rfl)) ?_; (with_reducible refine (catchpitref02_Small.calls k1 t314 t315 _ ?side1 A8.out).mono ?_); (case side1 => first | exact hG | exact TabOk.drewN hG _ | exact TabOk.drewN (TabOk.drewN hG _) _ | exact TabOk.below hG (by repeat (first | (with_reducible first | exact HB.out | apply below_alloc | apply pw_below_drewN | apply below_drew1) | exact HB.out))); rintro e w17 ⟨rfl, hb⟩; refine ⟨_, rfl, ?_⟩; have n0_ := Aside0.mk (Kd.R_below (by (with_reducible repeat (first | apply Kd.R_alloc | apply Kd.R_drewN | apply Kd.R_drew)); exact HO_5.out) hb); have n1_ := Aside0.mk (below_step (by repeat (first | (with_reducible first | exact HB.out | apply below_alloc | apply pw_below_drewN | apply below_drew1) | exact HB.out)) hb); clear HO_5; clear HB; have HO_5 := n0_; have HB := n1_; clear n0_ n1_; (try clear hb); (try clear hb2); (try clear hk); (try clear hi)) | ((with_reducible refine gate_callee (f := 40) rfl ?_); refine goesL_ (some 22) rfl rfl Tryd.func40 (by kernel_rfl) rfl #[.string a0] rfl (by (try simp only [List.map_toArray, List.map_cons, List.map_nil]); first | done | rfl | (simp only [List.length_drop, List.length_take]; rfl)) ?_; (with_reducible refine (catchpitref02_Small.calls k1 a0 t316 _ ?side1 A9.out).mono ?_); (case side1 => first | exact hG | exact TabOk.drewN hG _ | exact TabOk.drewN (TabOk.drewN hG _) _ | exact TabOk.below hG (by repeat (first | (with_reducible first | exact HB.out | apply below_alloc | apply pw_below_drewN | apply below_drew1) | exact HB.out))); rintro e w18 ⟨rfl, hb⟩; refine ⟨_, rfl, ?_⟩; have n0_ := Aside0.mk (Kd.R_below (by (with_reducible repeat (first | apply Kd.R_alloc | apply Kd.R_drewN | apply Kd.R_drew)); exact HO_5.out) hb); have n1_ := Aside0.mk (below_step (by repeat (first | (with_reducible first | exact HB.out | apply below_alloc | apply pw_below_drewN | apply below_drew1) | exact HB.out)) hb); clear HO_5; clear HB; have HO_5 := n0_; have HB := n1_; clear n0_ n1_; (try clear hb); (try clear hb2); (try clear hk); (try clear hi)))
            go_roundg k1
            case measure => have := HK1.out; omega
            case rel => exact ⟨(wrap64 (x6_1 + 1)), (by first | rfl | (simp; done) | (simp [*]; done)), H', ⟨by have := HK1.out; omega⟩, ⟨by (with_reducible repeat (first | apply Kd.R_alloc | apply Kd.R_drewN | apply Kd.R_drew)); exact HO_5.out⟩, ⟨by repeat (first | (with_reducible first | exact HB.out | apply below_alloc | apply pw_below_drewN | apply below_drew1) | exact HB.out)⟩⟩
        · rw [if_neg c6] at H
          exact absurd H (by simp)
      · rw [if_neg c5] at H
        have c5b0 : decide (x6_1 < (t310.length : Int)) = false := decide_eq_false c5
        clear c5
        obtain rfl := Option.some.inj H
        obtain ⟨Ao19, co19, eo19⟩ := Kd.R_slice HO_5.out
        subst eo19
        go_wp2
        go_ret
        exact ⟨by first | rfl | (simp [errW_none, errW_some] <;> rfl) | (simp [*, errW_none, errW_some] <;> rfl), by repeat (first | (with_reducible first | exact HB.out | apply below_alloc | apply pw_below_drewN | apply below_drew1) | exact HB.out)⟩
def octet_Alike.f (a0 : ByteArray) (a1 : ByteArray) : Option (Bool) := (octet_Small.f a0).bind fun t317 => ((octet_Small.f a1).bind fun t318 => (some (t317.toList == t318.toList)))
def framing_Lasts.f (l0 : List (S71)) : Option (Bool) := (field_Get.f l0 (⟨#[67, 111, 110, 110, 101, 99, 116, 105, 111, 110]⟩ : ByteArray)).bind fun t319 => ((list_Has.f (⟨#[99, 108, 111, 115, 101]⟩ : ByteArray) t319).bind fun t322 => (some (!t322)))
def framing_Expects.f (l0 : List (S71)) : Option (Bool) := (field_Get.f l0 (⟨#[69, 120, 112, 101, 99, 116]⟩ : ByteArray)).bind fun t323 => ((list_Has.f (⟨#[49, 48, 48, 45, 99, 111, 110, 116, 105, 110, 117, 101]⟩ : ByteArray) t323).bind fun t326 => (some t326))
set_option maxHeartbeats 8000000 in
set_option maxRecDepth 100000 in
theorem framing_Expects.calls (A0 : Option Addr) (c0 : Nat) (l0 : List (S71)) (r : Bool) (w : World) (hr0 : Kd.C k71 w A0 l0.length l0) (hc0 : l0.length ≤ c0) (hG : TabOk w) (h : framing_Expects.f l0 = some r) :
    Calls Tryd.prog 37 #[.slice A0 l0.length c0] w fun e w' => e = .returned (.bool r) ∧ Below w.heap.size w w' := by
  have HR0 := Aside0.mk hr0
  have HC0 := Aside0.mk hc0
  clear hr0 hc0
  have HB := Aside0.mk (Below.refl w.heap.size w)
  have H : ((field_Get.f l0 (⟨#[69, 120, 112, 101, 99, 116]⟩ : ByteArray)).bind fun t323 => ((list_Has.f (⟨#[49, 48, 48, 45, 99, 111, 110, 116, 105, 110, 117, 101]⟩ : ByteArray) t323).bind fun t326 => (some t326))) = some r := h
  clear h
  replace H := Option.bind_eq_some_iff.mp H
  obtain ⟨t323, A20, H⟩ := H
  replace H : ((list_Has.f (⟨#[49, 48, 48, 45, 99, 111, 110, 116, 105, 110, 117, 101]⟩ : ByteArray) t323).bind fun t326 => (some t326)) = some r := H
  have A2 := Aside0.mk A20
  clear A20
  replace H := Option.bind_eq_some_iff.mp H
  obtain ⟨t326, A30, H⟩ := H
  replace H : (some t326) = some r := H
  have A3 := Aside0.mk A30
  clear A30
  obtain rfl := Option.some.inj H
  go_enter Tryd.func37, Tryd.ntmps37
  go_wp2_with (first | ((with_reducible refine gate_callee (f := 50) rfl ?_); refine goesL_ (some 4) rfl rfl Tryd.func50 (by kernel_rfl) rfl #[.slice A0 l0.length c0, .string (⟨#[69, 120, 112, 101, 99, 116]⟩ : ByteArray)] rfl (by (try simp only [List.map_toArray, List.map_cons, List.map_nil]); first | done | rfl | (simp only [List.length_drop, List.length_take]; rfl)) ?_; (with_reducible refine (field_Get.calls _ _ l0 (⟨#[69, 120, 112, 101, 99, 116]⟩ : ByteArray) t323 _ ?side1 ?side2 ?side3 A2.out).mono ?_); (case side1 => repeat (first | exact HR0.out | (with_reducible refine Kd.C_alloc ?_ _) | (with_reducible refine Kd.C_drewN ?_ _) | (with_reducible refine Kd.C_drew ?_))); (case side2 => exact HC0.out); (case side3 => first | exact hG | exact TabOk.drewN hG _ | exact TabOk.drewN (TabOk.drewN hG _) _ | exact TabOk.below hG (by repeat (first | (with_reducible first | exact HB.out | apply below_alloc | apply pw_below_drewN | apply below_drew1) | exact HB.out))); rintro e w4 ⟨v324, rfl, ho0, hb⟩; refine ⟨_, rfl, ?_⟩; have n0_ := Aside0.mk (Kd.R_lower ho0 (below_size (by repeat (first | (with_reducible first | exact HB.out | apply below_alloc | apply pw_below_drewN | apply below_drew1) | exact HB.out)))); have n1_ := Aside0.mk (below_step (by repeat (first | (with_reducible first | exact HB.out | apply below_alloc | apply pw_below_drewN | apply below_drew1) | exact HB.out)) hb); clear HB; have HO325 := n0_; have HB := n1_; clear n0_ n1_; (try clear hb); (try clear hb2); (try clear hk); (try clear hi); (try clear ho0); obtain ⟨Ao5, co5, eo5⟩ := Kd.R_slice HO325.out; subst eo5) | ((with_reducible refine gate_callee (f := 49) rfl ?_); refine goesL_ (some 5) rfl rfl Tryd.func49 (by kernel_rfl) rfl #[.string (⟨#[49, 48, 48, 45, 99, 111, 110, 116, 105, 110, 117, 101]⟩ : ByteArray), .slice Ao5 t323.length co5] rfl (by (try simp only [List.map_toArray, List.map_cons, List.map_nil]); first | done | rfl | (simp only [List.length_drop, List.length_take]; rfl)) ?_; (with_reducible refine (list_Has.calls (⟨#[49, 48, 48, 45, 99, 111, 110, 116, 105, 110, 117, 101]⟩ : ByteArray) _ _ t323 t326 _ ?side1 ?side2 ?side3 A3.out).mono ?_); (case side1 => repeat (first | exact (Kd.R_reads' HO325.out).2.2 | (with_reducible refine Kd.C_alloc ?_ _) | (with_reducible refine Kd.C_drewN ?_ _) | (with_reducible refine Kd.C_drew ?_))); (case side2 => exact (Kd.R_reads' HO325.out).2.1); (case side3 => first | exact hG | exact TabOk.drewN hG _ | exact TabOk.drewN (TabOk.drewN hG _) _ | exact TabOk.below hG (by repeat (first | (with_reducible first | exact HB.out | apply below_alloc | apply pw_below_drewN | apply below_drew1) | exact HB.out))); rintro e w6 ⟨rfl, hb⟩; refine ⟨_, rfl, ?_⟩; have n0_ := Aside0.mk (Kd.R_below (by (with_reducible repeat (first | apply Kd.R_alloc | apply Kd.R_drewN | apply Kd.R_drew)); exact HO325.out) hb); have n1_ := Aside0.mk (below_step (by repeat (first | (with_reducible first | exact HB.out | apply below_alloc | apply pw_below_drewN | apply below_drew1) | exact HB.out)) hb); clear HO325; clear HB; have HO325 := n0_; have HB := n1_; clear n0_ n1_; (try clear hb); (try clear hb2); (try clear hk); (try clear hi)))
  go_ret
  exact ⟨by first | rfl | (simp [errW_none, errW_some] <;> rfl) | (simp [*, errW_none, errW_some] <;> rfl), by repeat (first | (with_reducible first | exact HB.out | apply below_alloc | apply pw_below_drewN | apply below_drew1) | exact HB.out)⟩
def catchpitlaw11_FramingSays.f (k : Nat) (l0 : List (S71)) : Option (Bool) := (catchpitlaw11_wakes.f k).bind fun t327 => (if t327 = true then ((catchpitref05_Great.f k l0).bind fun t328 => (if t328 = true then (some true) else ((framing_Lasts.f l0).bind fun t329 => ((catchpitref05_Get.f k l0 (⟨#[99, 111, 110, 110, 101, 99, 116, 105, 111, 110]⟩ : ByteArray)).bind fun t330 => ((catchpitref07_Has.f k (⟨#[99, 108, 111, 115, 101]⟩ : ByteArray) t330).bind fun t333 => (if (t329 == (!t333)) = true then ((framing_Expects.f l0).bind fun t334 => ((catchpitref05_Get.f k l0 (⟨#[101, 120, 112, 101, 99, 116]⟩ : ByteArray)).bind fun t335 => ((catchpitref07_Has.f k (⟨#[49, 48, 48, 45, 99, 111, 110, 116, 105, 110, 117, 101]⟩ : ByteArray) t335).bind fun t338 => (some (t334 == t338))))) else (some false))))))) else (some false))
theorem catchpitlaw11_FramingSays.mono : ∀ a0 k, LeO (catchpitlaw11_FramingSays.f k a0) (catchpitlaw11_FramingSays.f (k + 1) a0) := by
  intro a0 k
  unfold catchpitlaw11_FramingSays.f
  repeat' first
      | (with_reducible exact catchpitlaw11_wakes.mono _)
      | (with_reducible exact catchpitref05_Get.mono _ _ _)
      | (with_reducible exact catchpitref05_Great.mono _ _)
      | (with_reducible exact catchpitref07_Has.mono _ _ _)
      | (with_reducible exact LeO.refl _)
      | (with_reducible exact LeO.none _)
      | (with_reducible refine LeO.ite ?_ ?_)
      | (with_reducible refine LeO.bind ?_ (fun _ => ?_))
      | exact catchpitlaw11_wakes.mono _
      | exact catchpitref05_Get.mono _ _ _
      | exact catchpitref05_Great.mono _ _
      | exact catchpitref07_Has.mono _ _ _
      | exact LeO.none _
      | refine LeO.ite ?_ ?_
      | refine LeO.bind ?_ (fun _ => ?_)
def catchpitlaw20_waits.f  : Option ((List (S71))) := some (([(⟨(⟨#[69, 120, 112, 101, 99, 116]⟩ : ByteArray), (⟨#[49, 48, 48, 45, 99, 111, 110, 116, 105, 110, 117, 101]⟩ : ByteArray)⟩ : S71)] : List (S71)))
set_option maxHeartbeats 8000000 in
set_option maxRecDepth 100000 in
theorem catchpitlaw20_waits.calls  (r : List (S71)) (w : World) (hG : TabOk w) (h : catchpitlaw20_waits.f  = some r) :
    Calls Tryd.prog 14 #[] w fun e w' => ∃ v0_ : Value, e = .returned (v0_) ∧ Kd.R k71 71 w' w.heap.size (fun _ => True) v0_ r ∧ Below w.heap.size w w' := by
  have hu71 := Tryd.underlying71
  have HB := Aside0.mk (Below.refl w.heap.size w)
  have H : (some (([(⟨(⟨#[69, 120, 112, 101, 99, 116]⟩ : ByteArray), (⟨#[49, 48, 48, 45, 99, 111, 110, 116, 105, 110, 117, 101]⟩ : ByteArray)⟩ : S71)] : List (S71)))) = some r := h
  clear h
  obtain ⟨y356, hy356⟩ : ∃ y_ : List (S71), y_ = (([(⟨(⟨#[69, 120, 112, 101, 99, 116]⟩ : ByteArray), (⟨#[49, 48, 48, 45, 99, 111, 110, 116, 105, 110, 117, 101]⟩ : ByteArray)⟩ : S71)] : List (S71))) := ⟨_, rfl⟩
  replace H : (some y356) = some r := by first | (rw [hy356]; with_reducible exact H) | (have H2_ := (Option.bind_some _ _).symm.trans H; rw [hy356]; with_reducible exact H2_) | (have H2_ := (Option.bind_some _ _).symm.trans H; with_reducible exact H2_) | with_reducible exact H | (rw [hy356]; exact H) | exact H
  have Ny356 := Aside0.mk hy356
  clear hy356
  obtain rfl := Option.some.inj H
  go_enter Tryd.func14, Tryd.ntmps14
  go_wp2_with (first | ((with_reducible refine gate_dst (N := 2) rfl ?_); refine Kd.R_lit k71 _ 71 ?hg (N := 2) ?hd (xs := ([(⟨(⟨#[69, 120, 112, 101, 99, 116]⟩ : ByteArray), (⟨#[49, 48, 48, 45, 99, 111, 110, 116, 105, 110, 117, 101]⟩ : ByteArray)⟩ : S71)] : List (S71))) (inner := [.string (⟨#[69, 120, 112, 101, 99, 116]⟩ : ByteArray), .string (⟨#[49, 48, 48, 45, 99, 111, 110, 116, 105, 110, 117, 101]⟩ : ByteArray)]) (ok := fun _ => True) (okp := fun _ => True) ?hr ?hp (fun _ hk => hk) trivial (Below.refl _ _) (Nat.le_refl _) (by simp) ?_; (case hd => rfl); (case hg => rfl); (case hr => first | (go_simp; done) | (go_simp; rfl)); (case hp => exact (Reps.c2 (show Kd.M k71 _ _ _ (⟨(⟨#[69, 120, 112, 101, 99, 116]⟩ : ByteArray), (⟨#[49, 48, 48, 45, 99, 111, 110, 116, 105, 110, 117, 101]⟩ : ByteArray)⟩ : S71) [.string (⟨#[69, 120, 112, 101, 99, 116]⟩ : ByteArray), .string (⟨#[49, 48, 48, 45, 99, 111, 110, 116, 105, 110, 117, 101]⟩ : ByteArray)] from (k71_mkM _ _ _ (⟨(⟨#[69, 120, 112, 101, 99, 116]⟩ : ByteArray), (⟨#[49, 48, 48, 45, 99, 111, 110, 116, 105, 110, 117, 101]⟩ : ByteArray)⟩ : S71) )) (Reps.none _ _))); intro v357 w1 ho2 hb hg_ hnew_; clear hg_ hnew_; (first | rw [← Ny356.out] at ho2 | (simp only [Int.reduceToNat] at ho2; rw [← Ny356.out] at ho2)); have n0_ := Aside0.mk (Kd.R_lower ho2 (below_size (by repeat (first | (with_reducible first | exact HB.out | apply below_alloc | apply pw_below_drewN | apply below_drew1) | exact HB.out)))); have n1_ := Aside0.mk (below_step (by repeat (first | (with_reducible first | exact HB.out | apply below_alloc | apply pw_below_drewN | apply below_drew1) | exact HB.out)) hb); clear HB; have HO358 := n0_; have HB := n1_; clear n0_ n1_; clear hb ho2))
  go_ret
  exact ⟨_, by first | rfl | (simp [errW_none, errW_some] <;> rfl) | (simp [*, errW_none, errW_some] <;> rfl), by (with_reducible repeat (first | apply Kd.R_alloc | apply Kd.R_drewN | apply Kd.R_drew)); exact HO358.out, by repeat (first | (with_reducible first | exact HB.out | apply below_alloc | apply pw_below_drewN | apply below_drew1) | exact HB.out)⟩
def expect_Handshake_goOn.f (s0_0 : Int) (s0_1 : Int) (s0_2 : ByteArray) : Option (Int × Int × ByteArray) := some (2, s0_1, (⟨#[72, 84, 84, 80, 47, 49, 46, 49, 32, 49, 48, 48, 32, 67, 111, 110, 116, 105, 110, 117, 101, 13, 10, 13, 10]⟩ : ByteArray))
end Go.Proofs.YtoanmbhenmlboaaDoor.Pr
end
section
namespace Go.Proofs.YtoanmbhenmlboaaDoorH
open Go.RowKit Go.Proofs.YtoanmbhenmlboaaDoorW.PrintWords Go.Proofs.YtoanmbhenmlboaaDoorW.PrintLast Go.Proofs.YtoanmbhenmlboaaDoorW.PrintMore Go.Proofs.YtoanmbhenmlboaaDoor.Pr
set_option maxHeartbeats 1600000 in
set_option maxRecDepth 100000 in
theorem new_bad (A0 : Option Addr) (c0 n : Nat) (p : Int) (w : World) (hp : p < 0 ∨ 1073741824 < p) :
    Calls Tryd.prog 13 #[.slice A0 n c0, .int .i64 p] w fun e w' => e = .returned (.tuple #[.pointer none, .int .i64 1]) ∧ w' = w := by
  rcases hp with hp | hp
  · go_enter Tryd.func13, Tryd.ntmps13
    go_wp2
    go_ret2
    exact ⟨rfl, rfl⟩
  · have hp0 : 0 ≤ p := by omega
    go_enter Tryd.func13, Tryd.ntmps13
    go_wp2
    go_ret2
    exact ⟨rfl, rfl⟩
set_option maxHeartbeats 1600000 in
set_option maxRecDepth 100000 in
theorem new_calls (A0 : Option Addr) (c0 : Nat) (l : List S71) (p : Int) (r : Bool) (w : World) (hr : Kd.C k71 w A0 l.length l) (hc : l.length ≤ c0) (hG : TabOk w) (h : framing_Expects.f l = some r) (hp0 : 0 ≤ p) (hp1 : p ≤ 1073741824) :
    Calls Tryd.prog 13 #[.slice A0 l.length c0, .int .i64 p] w fun e w' =>
      e = .returned (.tuple #[.pointer (some ⟨w.heap.size, 0, none⟩), .int .i64 0]) ∧ IsH w' w.heap.size (if r = true then 1 else 0) p ⟨#[]⟩ ∧ Below w.heap.size w w' := by
  have hbd : ∀ W : World, (Instr.build 69 #[(1, .int .i64 p)]).run Tryd.prog W = .ok (.agg #[.int .i64 0, .int .i64 p, .string ⟨#[]⟩]) W := fun _ => by kernel_rfl
  have HR := Aside0.mk (Kd.C_alloc hr (.cells #[.int .i64 0, .int .i64 p, .string ⟨#[]⟩] 69))
  have HB := Aside0.mk ((Below.refl w.heap.size w).alloc (Nat.le_refl _) (.cells #[.int .i64 0, .int .i64 p, .string ⟨#[]⟩] 69))
  have HG := Aside0.mk (hG.below HB.out)
  have HH := Aside0.mk (show IsH (w.alloc (.cells #[.int .i64 0, .int .i64 p, .string ⟨#[]⟩] 69)) w.heap.size 0 p ⟨#[]⟩ from heap_alloc_new w _)
  have HC := Aside0.mk hc
  have HF := Aside0.mk h
  clear hr hG hc h
  go_enter Tryd.func13, Tryd.ntmps13
  go_wp2_with fail
  refine (framing_Expects.calls A0 c0 l r _ HR.out HC.out HG.out HF.out).mono ?_
  rintro e w1 ⟨rfl, b1⟩
  have H1 := Aside0.mk (HH.out.below b1 HH.out.lt)
  have B1 := Aside0.mk (HB.out.trans (b1.mono (by simp)))
  have h0 := H1.out.c0
  have z0 := H1.out.fz 0
  clear b1 hbd
  cases r with
  | true =>
    go_wp2
    go_ret2
    exact ⟨rfl, H1.out.s0 1, below_set B1.out (Nat.le_refl _) _ _⟩
  | false =>
    go_wp2
    go_ret2
    exact ⟨rfl, H1.out, B1.out⟩
end Go.Proofs.YtoanmbhenmlboaaDoorH
end
section
namespace Go.Proofs.YtoanmbhenmlboaaDoorH
open Go.RowKit Go.Proofs.YtoanmbhenmlboaaDoorW.PrintWords Go.Proofs.YtoanmbhenmlboaaDoorW.PrintLast Go.Proofs.YtoanmbhenmlboaaDoorW.PrintMore Go.Proofs.YtoanmbhenmlboaaDoor.Pr
def waitsL : List S71 := [(⟨(⟨#[69, 120, 112, 101, 99, 116]⟩ : ByteArray), (⟨#[49, 48, 48, 45, 99, 111, 110, 116, 105, 110, 117, 101]⟩ : ByteArray)⟩ : S71)]
theorem waits_eq : catchpitlaw20_waits.f = some waitsL := rfl
theorem waits_says : framing_Expects.f waitsL = some true := by decide +kernel
set_option maxHeartbeats 1600000 in
set_option maxRecDepth 100000 in
theorem wakes20_calls (w : World) (hG : TabOk w) :
    Calls Tryd.prog 12 #[] w fun e w' => e = .returned (.bool true) ∧ Below w.heap.size w w' := by
  have HG := Aside0.mk hG
  clear hG
  go_enter Tryd.func12, Tryd.ntmps12
  go_wp2_with fail
  refine (catchpitlaw20_waits.calls waitsL w HG.out waits_eq).mono ?_
  rintro e w1 ⟨v, rfl, hR, b1⟩
  obtain ⟨A1, c1, rfl, hc1, hC1⟩ := Kd.R_reads hR
  have HR1 := Aside0.mk hC1
  have HC1 := Aside0.mk hc1
  have B1 := Aside0.mk b1
  have HG1 := Aside0.mk (HG.out.below b1)
  clear hR hC1 hc1 b1
  go_wp2_with fail
  refine (new_calls A1 c1 waitsL 0 true w1 HR1.out HC1.out HG1.out waits_says (by decide) (by decide)).mono ?_
  rintro e w2 ⟨rfl, h2, b2⟩
  have H2 := Aside0.mk h2
  have B2 := Aside0.mk (B1.out.trans (b2.mono B1.out.size))
  have HS := Aside0.mk B1.out.size
  clear h2 b2
  rw [if_pos rfl] at H2
  generalize w1.heap.size = b at *
  go_wp2_with fail
  have ho := origin_calls b 1 0 102 ⟨#[]⟩ w2 H2.out
  rw [show originR 1 (⟨#[]⟩ : ByteArray) 102 = (1, ⟨#[]⟩) from rfl, if_neg (by decide), if_neg (by decide)] at ho
  refine ho.mono ?_
  clear ho
  rintro e w3 ⟨rfl, h3, b3⟩
  have H3 := Aside0.mk (show IsH w3 b 1 0 ⟨#[]⟩ from h3)
  have B3 := Aside0.mk (B2.out.trans (b3.1.mono HS.out))
  clear h3 b3
  go_wp2_with fail
  have ho := origin_calls b 1 0 100 ⟨#[]⟩ w3 H3.out
  rw [show originR 1 (⟨#[]⟩ : ByteArray) 100 = (2, interimS) from rfl, if_neg (by decide), if_neg (by decide)] at ho
  refine ho.mono ?_
  clear ho
  rintro e w4 ⟨rfl, h4, b4⟩
  have H4 := Aside0.mk (show IsH w4 b 2 0 interimS from h4)
  have B4 := Aside0.mk (B3.out.trans (b4.1.mono HS.out))
  clear h4 b4
  go_wp2_with fail
  have ho := reads_calls b 2 0 interimS w4 H4.out
  rw [show (decide ((2 : Int) = 0) || decide ((2 : Int) = 2) && decide (interimS.size = 0)) = false from rfl] at ho
  refine ho.mono ?_
  clear ho
  rintro e w5 ⟨rfl, rfl⟩
  go_wp2_with fail
  have ho := out_calls b 2 0 99 interimS w5 H4.out (by decide)
  rw [show outN interimS 99 = 25 from rfl] at ho
  refine ho.mono ?_
  clear ho
  rintro e w6 ⟨c6, rfl, _, h6, b6⟩
  have H6 := Aside0.mk h6
  have B6 := Aside0.mk (B4.out.trans (b6.1.mono HS.out))
  clear h6 b6
  go_wp2_with fail
  have ho := reads_calls b 2 0 _ w6 H6.out
  rw [show (decide ((2 : Int) = 0) || decide ((2 : Int) = 2) && decide ((outR interimS 99).size = 0)) = true from rfl] at ho
  refine ho.mono ?_
  clear ho
  rintro e w7 ⟨rfl, rfl⟩
  go_wp2
  go_ret
  exact ⟨rfl, B6.out⟩
end Go.Proofs.YtoanmbhenmlboaaDoorH
end
section
namespace Go.Proofs.YtoanmbhenmlboaaDoorH
open Go.RowKit Go.Proofs.YtoanmbhenmlboaaDoorW.PrintWords Go.Proofs.YtoanmbhenmlboaaDoorW.PrintLast Go.Proofs.YtoanmbhenmlboaaDoorW.PrintMore
theorem drop_cons {α : Type} (l : List α) (d : α) (i : Nat) (h : i < l.length) : l.drop i = l.getD i d :: l.drop (i + 1) := by
  rw [List.drop_eq_getElem_cons h]
  simp [List.getD_eq_getElem?_getD, h]
theorem wrapN (a b : Nat) (h : a + b < 4611686018427387904) : wrap64 ((a : Int) + (b : Int)) = ((a + b : Nat) : Int) := by unfold wrap64; omega
theorem wrapS (a : Nat) (h : a < 4611686018427387904) : wrap64 ((a : Int) + 1) = ((a + 1 : Nat) : Int) := by unfold wrap64; omega
theorem ev_all {α : Type} (F : Nat → α → Option Bool) (p : α → Bool) : ∀ l : List α, (∀ x ∈ l, Ev (fun k => F k x) (p x)) → ∃ K, ∀ k, K ≤ k → ∀ x ∈ l, F k x = some (p x)
  | [], _ => ⟨0, fun _ _ x hx => by cases hx⟩
  | a :: l, h => by
    obtain ⟨K1, h1⟩ := h a (List.mem_cons_self ..)
    obtain ⟨K2, h2⟩ := ev_all F p l (fun x hx => h x (List.mem_cons_of_mem _ hx))
    refine ⟨K1 + K2, fun k hk x hx => ?_⟩
    rcases List.mem_cons.1 hx with rfl | hx
    · exact h1 k (by omega)
    · exact h2 k (by omega) x hx
end Go.Proofs.YtoanmbhenmlboaaDoorH
end
section
namespace Go.Proofs.YtoanmbhenmlboaaDoorH
open Go.RowKit Go.Proofs.YtoanmbhenmlboaaDoorW.PrintWords Go.Proofs.YtoanmbhenmlboaaDoorW.PrintLast Go.Proofs.YtoanmbhenmlboaaDoorW.PrintMore Go.Proofs.YtoanmbhenmlboaaDoor.Pr
theorem ref02_blank (c : Int) : catchpitref02_blank.f c = some (blankI c) := by
  unfold catchpitref02_blank.f blankI
  by_cases h : c = 32
  · rw [if_pos h]; subst h; rfl
  · rw [if_neg h, beq_eq_false_iff_ne.2 h, Bool.false_or]
theorem mk_data (s : ByteArray) : (⟨s.data.toList.toArray⟩ : ByteArray) = s := bytes_ext (by simp)
theorem ref02_Trim_l1 (n : Nat) : ∀ (s : ByteArray) (k : Nat), s.size = n → n ≤ 140737488355328 → n < k →
    catchpitref02_Trim.l1 k s = some ⟨(rtrim blankU s.data.toList).toArray⟩ := by
  induction n with
  | zero =>
    intro s k hs hn hk
    obtain ⟨k, rfl⟩ : ∃ m, k = m + 1 := ⟨k - 1, by omega⟩
    rw [catchpitref02_Trim.l1, if_neg (by omega)]
    have hl : s.data.toList = [] := by rw [size_eq_length] at hs; exact List.length_eq_zero_iff.1 hs
    congr 1
    apply bytes_ext
    rw [hl]; rfl
  | succ n ih =>
    intro s k hs hn hk
    obtain ⟨k, rfl⟩ : ∃ m, k = m + 1 := ⟨k - 1, by omega⟩
    obtain ⟨t, c, hl, hb⟩ := last_of s (by omega)
    rw [catchpitref02_Trim.l1, if_pos (by omega), wrap_down (by omega) (by omega), if_pos (by omega), if_pos (by omega), ref02_blank, Option.bind_some, hb, blankU_int]
    rw [hl, rtrim_snoc]
    cases hp : blankU c with
    | true =>
      rw [if_pos rfl, if_pos (by omega), if_pos rfl, show ((s.size : Int) - 1).toNat = s.size - 1 by omega]
      have he : (s.extract 0 (s.size - 1)).data.toList = t := by
        rw [extract_to, hl, size_eq_length, hl]
        simp
      rw [ih _ k (by rw [size_eq_length, he]; have := size_eq_length s; rw [hl] at this; simp at this; omega) (by omega) (by omega), he]
    | false =>
      rw [if_neg (by simp), if_neg (by simp), ← hl, mk_data]
theorem ref02_Trim_l0 (n : Nat) : ∀ (s : ByteArray) (k : Nat), s.size = n → n ≤ 140737488355328 → n + n + 2 < k →
    catchpitref02_Trim.l0 k s = some ⟨(rtrim blankU (s.data.toList.dropWhile blankU)).toArray⟩ := by
  induction n with
  | zero =>
    intro s k hs hn hk
    obtain ⟨k, rfl⟩ : ∃ m, k = m + 2 := ⟨k - 2, by omega⟩
    rw [catchpitref02_Trim.l0, if_neg (by omega), catchpitref02_Trim.j1, ref02_Trim_l1 0 s k hs (by omega) (by omega)]
    have hl : s.data.toList = [] := by rw [size_eq_length] at hs; exact List.length_eq_zero_iff.1 hs
    rw [hl]; rfl
  | succ n ih =>
    intro s k hs hn hk
    obtain ⟨k, rfl⟩ : ∃ m, k = m + 2 := ⟨k - 2, by omega⟩
    obtain ⟨c, t, hl, hb⟩ := first_of s (by omega)
    rw [catchpitref02_Trim.l0, if_pos (by omega), if_pos (by omega), ref02_blank, Option.bind_some, hb, blankU_int, hl]
    cases hp : blankU c with
    | true =>
      rw [if_pos rfl, if_pos (by omega), List.dropWhile_cons_of_pos hp]
      have he : (s.extract 1 s.size).data.toList = t := by rw [extract_from, hl]; rfl
      rw [ih _ (k + 1) (by rw [size_eq_length, he]; have := size_eq_length s; rw [hl] at this; simp at this; omega) (by omega) (by omega), he]
    | false =>
      rw [if_neg (by simp), catchpitref02_Trim.j1, ref02_Trim_l1 (n + 1) s k hs (by omega) (by omega), List.dropWhile_cons_of_neg (by simp [hp]), hl]
theorem ref02_Trim (s : ByteArray) (hs : s.size ≤ 140737488355328) : Ev (fun k => catchpitref02_Trim.f k s) (trimS s) := by
  refine ⟨s.size + s.size + 3, fun k hk => ?_⟩
  show catchpitref02_Trim.l0 k s = _
  rw [ref02_Trim_l0 s.size s k rfl hs (by omega)]
  unfold trimS
  rw [trimL_eq']
theorem ref02_Small_l0 (s : ByteArray) (hs : s.size ≤ 140737488355327) (d : Nat) : ∀ (k i : Nat), i ≤ s.size → s.size - i = d → d < k →
    catchpitref02_Small.l0 k s ((smallL s).take i) (i : Int) = some (smallS s) := by
  induction d with
  | zero =>
    intro k i h1 hd hk
    obtain ⟨k, rfl⟩ : ∃ m, k = m + 1 := ⟨k - 1, by omega⟩
    rw [catchpitref02_Small.l0, if_neg (by omega), List.take_of_length_le (by rw [smallL_length]; omega)]
    rfl
  | succ d ih =>
    intro k i h1 hd hk
    obtain ⟨k, rfl⟩ : ∃ m, k = m + 1 := ⟨k - 1, by omega⟩
    have hb := bt_range s i
    have hlen : ((smallL s).take i).length < 140737488355328 := by rw [List.length_take, smallL_length]; omega
    have hi : i < (smallL s).length := by rw [smallL_length]; omega
    have hst : (smallL s).take (i + 1) = (smallL s).take i ++ [smallI (bt s i)] := by
      rw [List.take_succ_eq_append_getElem hi, ← smallL_at s i (by omega), List.getD_eq_getElem?_getD, List.getElem?_eq_getElem hi]
      rfl
    have hih := ih k (i + 1) (by omega) (by omega) (by omega)
    rw [hst] at hih
    rw [catchpitref02_Small.l0, if_pos (by omega), if_pos (by omega), wrap_up (by omega) (show (i : Int) < (s.size : Int) by omega) (by omega)]
    by_cases h65 : bt s i ≥ 65
    · rw [if_pos h65]
      by_cases h90 : bt s i ≤ 90
      · rw [if_pos h90, if_pos hlen, show (bt s i + 32) % 256 = smallI (bt s i) by unfold smallI; rw [if_pos ⟨h65, h90⟩]; omega]
        exact hih
      · rw [if_neg h90, if_pos hlen, show bt s i = smallI (bt s i) by unfold smallI; rw [if_neg (by omega)]] 
        exact hih
    · rw [if_neg h65, if_pos hlen, show bt s i = smallI (bt s i) by unfold smallI; rw [if_neg (by omega)]]
      exact hih
theorem ref02_Small (s : ByteArray) (hs : s.size ≤ 140737488355327) : Ev (fun k => catchpitref02_Small.f k s) (smallS s) := by
  refine ⟨s.size + 1, fun k hk => ?_⟩
  have := ref02_Small_l0 s hs s.size k 0 (by omega) (by omega) (by omega)
  exact this
end Go.Proofs.YtoanmbhenmlboaaDoorH
end
section
namespace Go.Proofs.YtoanmbhenmlboaaDoorH
open Go.RowKit Go.Proofs.YtoanmbhenmlboaaDoorW.PrintWords Go.Proofs.YtoanmbhenmlboaaDoorW.PrintLast Go.Proofs.YtoanmbhenmlboaaDoorW.PrintMore Go.Proofs.YtoanmbhenmlboaaDoor.Pr
abbrev Fld := S71
def Small1 (l : List Fld) : Prop := ∀ y ∈ l, y.f0.size ≤ 140737488351232 ∧ y.f1.size ≤ 140737488351232
def sumF (l : List Fld) : Nat := (l.map fun x => x.f0.size + x.f1.size + 1).sum
theorem sumF_cons (x : Fld) (l : List Fld) : sumF (x :: l) = (x.f0.size + x.f1.size + 1) + sumF l := by simp [sumF]
theorem sumF_length : ∀ l : List Fld, l.length ≤ sumF l
  | [] => Nat.le_refl _
  | x :: l => by
    have := sumF_length l
    rw [sumF_cons, List.length_cons]
    omega
theorem rd_nat (l : List Fld) (i : Nat) : rd_T71 l (i : Int) = l.getD i z71 := by
  unfold rd_T71
  rw [Int.toNat_natCast]
def bigF : Nat := 600000000000000
theorem ref05_Great_l0 (l : List Fld) (hl : Small1 l) (hn : l.length ≤ 140737488351232) (d : Nat) : ∀ (i n k : Nat), i ≤ l.length → l.length - i = d → d < k → n ≤ bigF →
    catchpitref05_Great.l0 k l (n : Int) (i : Int) = some (decide (2000 < n + sumF (l.drop i))) := by
  induction d with
  | zero =>
    intro i n k h1 h2 h3 h4
    obtain ⟨k, rfl⟩ : ∃ m, k = m + 1 := ⟨k - 1, by omega⟩
    rw [catchpitref05_Great.l0, if_neg (by omega), List.drop_eq_nil_of_le (by omega)]
    congr 1
    rw [decide_eq_decide]
    show _ ↔ 2000 < n + 0
    omega
  | succ d ih =>
    intro i n k h1 h2 h3 h4
    obtain ⟨k, rfl⟩ : ∃ m, k = m + 1 := ⟨k - 1, by omega⟩
    have hi : i < l.length := by omega
    rw [catchpitref05_Great.l0, if_pos (by omega), drop_cons l z71 i hi, sumF_cons, rd_nat]
    have hx := hl _ (mem_getD l z71 i hi)
    generalize l.getD i z71 = x at *
    by_cases h : n ≤ 2000
    · rw [if_pos (by omega), if_pos (by omega)]
      have a1 : i + 1 ≤ l.length := hi
      have a2 : l.length - (i + 1) = d := by omega
      have a3 : d < k := by omega
      have a4 : n + x.f0.size + x.f1.size + 1 ≤ bigF := by unfold bigF at *; omega
      have b1 : n + x.f0.size < 4611686018427387904 := by omega
      have b2 : n + x.f0.size + x.f1.size < 4611686018427387904 := by omega
      have b4 : i < 4611686018427387904 := by omega
      have e1 := wrapN n x.f0.size b1
      have e2 := wrapN (n + x.f0.size) x.f1.size b2
      have e3 := wrapS (n + x.f0.size + x.f1.size) b2
      have e4 := wrapS i b4
      have hh := ih (i + 1) (n + x.f0.size + x.f1.size + 1) k a1 a2 a3 a4
      rw [e1, e2, e3, e4, hh]
      clear e1 e2 e3 e4 hh ih
      congr 1
      rw [decide_eq_decide]
      omega
    · rw [if_neg (by omega)]
      congr 1
      rw [decide_eq_decide]
      omega
theorem ref05_Great (l : List Fld) (hl : Small1 l) (hn : l.length ≤ 140737488351232) : Ev (fun k => catchpitref05_Great.f k l) (decide (2000 < sumF l)) := by
  refine ⟨l.length + 1, fun k hk => ?_⟩
  have := ref05_Great_l0 l hl hn l.length 0 0 k (Nat.zero_le _) rfl (by omega) (Nat.zero_le _)
  rw [Nat.zero_add, List.drop_zero] at this
  exact this
theorem ref05_Is (x : Fld) (n : ByteArray) (hx : x.f0.size ≤ 140737488351232) (hn : n.size ≤ 140737488351232) : Ev (fun k => catchpitref05_Is.f k x.f0 x.f1 n) (isB x n) := by
  obtain ⟨K1, h1⟩ := ref02_Small x.f0 (by omega)
  obtain ⟨K2, h2⟩ := ref02_Small n (by omega)
  refine ⟨K1 + K2, fun k hk => ?_⟩
  have h1 := h1 k (by omega)
  have h2 := h2 k (by omega)
  simp only at h1 h2
  show catchpitref05_Is.f k x.f0 x.f1 n = _
  rw [catchpitref05_Is.f, h1, Option.bind_some, h2, Option.bind_some, beq_toList]
  rfl
theorem getL_step (l : List Fld) (n : ByteArray) (i : Nat) (h : i < l.length) : getL (l.take (i + 1)) n = getL (l.take i) n ++ (if isB (l.getD i z71) n then [(l.getD i z71).f1] else []) := by
  rw [take_one l z71 i h]
  unfold getL
  rw [List.filter_append, List.map_append]
  generalize l.getD i z71 = y
  congr 1
  cases hb : isB y n with
  | true => rw [List.filter_cons_of_pos (p := fun x => isB x n) hb]; rfl
  | false => rw [List.filter_cons_of_neg (p := fun x => isB x n) (by simp [hb])]; rfl
theorem getL_length (l : List Fld) (n : ByteArray) : (getL l n).length ≤ l.length := by
  unfold getL
  rw [List.length_map]
  exact List.length_filter_le _ _
theorem ref05_Get (l : List Fld) (n : ByteArray) (hl : Small1 l) (hn : n.size ≤ 140737488351232) (hc : l.length ≤ 100000) : Ev (fun k => catchpitref05_Get.f k l n) (getL l n) := by
  obtain ⟨K, hK⟩ := ev_all (fun k (x : Fld) => catchpitref05_Is.f k x.f0 x.f1 n) (fun x => isB x n) l (fun x hx => ref05_Is x n (hl x hx).1 hn)
  have hl0 : ∀ d i k : Nat, i ≤ l.length → l.length - i = d → K + d < k → catchpitref05_Get.l0 k l n (getL (l.take i) n) (i : Int) = some (getL l n) := by
    intro d
    induction d with
    | zero =>
      intro i k h1 h2 h3
      obtain ⟨k, rfl⟩ : ∃ m, k = m + 1 := ⟨k - 1, by omega⟩
      rw [catchpitref05_Get.l0, if_neg (by omega), List.take_of_length_le (by omega)]
    | succ d ih =>
      intro i k h1 h2 h3
      obtain ⟨k, rfl⟩ : ∃ m, k = m + 1 := ⟨k - 1, by omega⟩
      have hi : i < l.length := by omega
      have hlen := getL_length (l.take i) n
      have hst := getL_step l n i hi
      have hi2 := ih (i + 1) k (by omega) (by omega) (by omega)
      have hq := hK k (by omega) _ (mem_getD l z71 i hi)
      rw [List.length_take] at hlen
      rw [catchpitref05_Get.l0, if_pos (by omega), if_pos (by omega), rd_nat, hq, Option.bind_some, show wrap64 ((i : Int) + 1) = ((i + 1 : Nat) : Int) by unfold wrap64; omega]
      rw [hst] at hi2
      cases hb : isB (l.getD i z71) n with
      | true =>
        rw [hb, if_pos rfl] at hi2
        rw [if_pos rfl, if_pos (by omega)]
        exact hi2
      | false =>
        rw [hb, if_neg (by simp), List.append_nil] at hi2
        rw [if_neg (by simp)]
        exact hi2
  refine ⟨K + l.length + 1, fun k hk => ?_⟩
  have := hl0 l.length 0 k (by omega) (by omega) (by omega)
  exact this
theorem field_Get_eq (l : List Fld) (n : ByteArray) (hl : Small1 l) (hn : n.size ≤ 140737488351232) (hc : l.length ≤ 100000) : field_Get.f l n = some (getL l n) := by
  unfold field_Get.f
  have hf : fitF l = true := List.all_eq_true.2 fun x hx => decide_eq_true (by have := (hl x hx).1; omega)
  rw [hf, decide_eq_true (by omega), decide_eq_true (by omega)]
  rfl
end Go.Proofs.YtoanmbhenmlboaaDoorH
end
section
namespace Go.Proofs.YtoanmbhenmlboaaDoorH
open Go.RowKit Go.Proofs.YtoanmbhenmlboaaDoorW.PrintWords Go.Proofs.YtoanmbhenmlboaaDoorW.PrintLast Go.Proofs.YtoanmbhenmlboaaDoorW.PrintMore Go.Proofs.YtoanmbhenmlboaaDoor.Pr
theorem ev_succ {α : Type} {g : Nat → Option α} {r : α} (h : Ev (fun k => g (k + 1)) r) : Ev g r := by
  obtain ⟨K, hK⟩ := h
  refine ⟨K + 1, fun k hk => ?_⟩
  obtain ⟨k, rfl⟩ : ∃ m, k = m + 1 := ⟨k - 1, by omega⟩
  exact hK k (by omega)
theorem ev_bind {α β : Type} {g : Nat → Option α} {h : Nat → α → Option β} {x : α} {r : β} (h1 : Ev g x) (h2 : Ev (fun k => h k x) r) : Ev (fun k => (g k).bind (h k)) r := by
  obtain ⟨K1, h1⟩ := h1
  obtain ⟨K2, h2⟩ := h2
  exact ⟨K1 + K2, fun k hk => by show (g k).bind (h k) = _; rw [h1 k (by omega), Option.bind_some]; exact h2 k (by omega)⟩
theorem ev_as {α : Type} {g g' : Nat → Option α} {r : α} (h : Ev g r) (e : ∀ k, g' k = g k) : Ev g' r := by
  obtain ⟨K, hK⟩ := h
  exact ⟨K, fun k hk => (e k).trans (hK k hk)⟩
theorem ev_some {α : Type} (r : α) : Ev (fun _ => some r) r := ⟨0, fun _ _ => rfl⟩
def mkB (l : List UInt8) : ByteArray := ⟨l.toArray⟩
def partsC (c : UInt8) (s : ByteArray) : List ByteArray := (splitL c s.data.toList).map mkB
theorem partsB_eq (s : ByteArray) : partsB s = partsC 44 s := rfl
theorem splitL_no (c : UInt8) (p : List UInt8) (h : ∀ x ∈ p, x ≠ c) : splitL c p = [p] :=
  splitL_none c p (List.findIdx_eq_length.2 fun x hx => by simpa using h x hx)
theorem extract_mk (s : ByteArray) (a i : Nat) (p : List UInt8) (h1 : a ≤ i) (h2 : i ≤ s.size) (hp : s.data.toList.drop a = p ++ s.data.toList.drop i) : s.extract a i = mkB p := by
  apply bytes_ext
  rw [extract_list, hp]
  have hl : p.length = i - a := by
    have := congrArg List.length hp
    rw [List.length_append, List.length_drop, List.length_drop, data_length] at this
    omega
  show _ = p
  rw [← hl, List.take_left]
theorem ref07_cut_l0 (s : ByteArray) (c : UInt8) (hs : s.size ≤ 1000000000) : ∀ (d i a : Nat) (p : List UInt8) (acc : List ByteArray), a ≤ i → i ≤ s.size → s.size - i = d → acc.length ≤ i →
    s.data.toList.drop a = p ++ s.data.toList.drop i → (∀ x ∈ p, x ≠ c) →
    Ev (fun k => catchpitref07_cut.l0 k s ((c.toNat : Nat) : Int) acc (a : Int) (i : Int)) (acc ++ (splitL c (s.data.toList.drop a)).map mkB) := by
  intro d
  induction d with
  | zero =>
    intro i a p acc h1 h2 h3 h4 hp hc
    obtain rfl : i = s.size := by omega
    have he := extract_mk s a s.size p h1 (Nat.le_refl _) hp
    have hz : s.data.toList.drop s.size = [] := List.drop_eq_nil_of_le (by rw [data_length]; exact Nat.le_refl _)
    rw [hz, List.append_nil] at hp
    refine ev_succ (ev_succ ⟨0, fun k _ => ?_⟩)
    show catchpitref07_cut.l0 (k + 1 + 1) s _ acc _ _ = _
    rw [catchpitref07_cut.l0, if_pos (by omega), if_pos rfl, if_pos (by omega), if_pos (by omega), if_pos (by omega), show wrap64 ((s.size : Int) + 1) = ((s.size + 1 : Nat) : Int) by unfold wrap64; omega, catchpitref07_cut.l0, if_neg (by omega), Int.toNat_natCast, Int.toNat_natCast, he, hp, splitL_no c p hc]
    rfl
  | succ d ih =>
    intro i a p acc h1 h2 h3 h4 hp hc
    obtain ⟨b, hb, hbt⟩ := drop_byte s i (by omega)
    have hw : wrap64 ((i : Int) + 1) = ((i + 1 : Nat) : Int) := by unfold wrap64; omega
    by_cases hbc : b = c
    · subst hbc
      have he := extract_mk s a i p h1 (by omega) hp
      have key := ih (i + 1) (i + 1) [] (acc ++ [mkB p]) (Nat.le_refl _) (by omega) (by omega) (by rw [List.length_append, List.length_singleton]; omega) (by simp) (by simp)
      rw [show acc ++ (splitL b (s.data.toList.drop a)).map mkB = acc ++ [mkB p] ++ (splitL b (s.data.toList.drop (i + 1))).map mkB by
        rw [hp, hb, splitL_append, splitL_no b p hc]; simp]
      refine ev_succ (ev_as key fun k => ?_)
      rw [catchpitref07_cut.l0, if_pos (by omega), if_neg (by omega), if_pos (by omega), if_pos (by omega), if_pos hbt, if_pos (by omega), if_pos (by omega), if_pos (by omega), hw, Int.toNat_natCast, Int.toNat_natCast, he]
    · have key := ih (i + 1) a (p ++ [b]) acc (by omega) (by omega) (by omega) (by omega) (by rw [hp, hb]; simp) (fun x hx => by
        rcases List.mem_append.1 hx with h | h
        · exact hc x h
        · rw [List.mem_singleton.1 h]; exact hbc)
      refine ev_succ (ev_as key fun k => ?_)
      rw [catchpitref07_cut.l0, if_pos (by omega), if_neg (by omega), if_pos (by omega), if_pos (by omega), if_neg (fun h => hbc (by rw [hbt] at h; exact UInt8.toNat_inj.1 (by omega))), hw]
theorem ref07_cut (s : ByteArray) (c : UInt8) (hs : s.size ≤ 1000000000) : Ev (fun k => catchpitref07_cut.f k s ((c.toNat : Nat) : Int)) (partsC c s) := by
  have := ref07_cut_l0 s c hs s.size 0 0 [] [] (Nat.le_refl _) (Nat.zero_le _) rfl (Nat.zero_le _) rfl (by simp)
  exact this
theorem snds_map (i : Nat) (l : List ByteArray) : (l.map fun x => (i, x)).map (fun y => y.2) = l := by
  rw [List.map_map]
  exact List.map_id _
theorem itemsF_snds : ∀ (l : List ByteArray) (i : Nat), (itemsF i l).map (fun y => y.2) = l.flatMap itemsP
  | [], _ => rfl
  | v :: l, i => by rw [itemsF, List.map_append, snds_map, itemsF_snds l (i + 1), List.flatMap_cons]
theorem itemsL_flat (l : List ByteArray) : itemsL l = l.flatMap itemsP := itemsF_snds l 0
theorem rdOf_nat (l : List ByteArray) (i : Nat) : rdOf ByteArray.empty l (i : Int) = l.getD i ByteArray.empty := by
  unfold rdOf
  rw [Int.toNat_natCast]
theorem partsC_size (c : UInt8) (s : ByteArray) : ∀ p ∈ partsC c s, p.size ≤ s.size := by
  intro p hp
  obtain ⟨l, hl, rfl⟩ := List.mem_map.1 hp
  rw [size_eq_length s]
  exact splitL_size _ _ _ hl
theorem partsC_length (c : UInt8) (s : ByteArray) : (partsC c s).length ≤ s.size + 1 := by
  unfold partsC
  rw [List.length_map, size_eq_length]
  exact splitL_count _ _
theorem sumS_drop (l : List ByteArray) (i : Nat) (h : i < l.length) : sumS (l.drop i) = (l.getD i ByteArray.empty).size + 1 + sumS (l.drop (i + 1)) := by
  rw [drop_cons l ByteArray.empty i h, sumS_cons]
theorem ref07_Items_l1 (xs : List ByteArray) (i : Nat) (ps : List ByteArray) (hps : ∀ p ∈ ps, p.size ≤ 1000000000) (r : List ByteArray) : ∀ (d j : Nat) (acc : List ByteArray), j ≤ ps.length → ps.length - j = d → acc.length + d ≤ 1000000000 → ps.length ≤ 1000000000 →
    Ev (fun k => catchpitref07_Items.l0 k xs (acc ++ (ps.drop j).flatMap partItem) (wrap64 ((i : Int) + 1))) r →
    Ev (fun k => catchpitref07_Items.l1 k xs acc (i : Int) ps (j : Int)) r := by
  intro d
  induction d with
  | zero =>
    intro j acc h1 h2 h3 h4 h
    rw [List.drop_eq_nil_of_le (by omega), List.flatMap_nil, List.append_nil] at h
    refine ev_succ (ev_as h fun k => ?_)
    rw [catchpitref07_Items.l1, if_neg (by omega)]
  | succ d ih =>
    intro j acc h1 h2 h3 h4 h
    have hj : j < ps.length := by omega
    have hw : wrap64 ((j : Int) + 1) = ((j + 1 : Nat) : Int) := by unfold wrap64; omega
    rw [drop_cons ps ByteArray.empty j hj, List.flatMap_cons, ← List.append_assoc] at h
    have hsz := hps _ (mem_getD ps ByteArray.empty j hj)
    have ht := ref02_Trim (ps.getD j ByteArray.empty) (by omega)
    unfold partItem at h
    by_cases hz : (trimS (ps.getD j ByteArray.empty)).size = 0
    · rw [if_pos hz, List.append_nil] at h
      have key := ih (j + 1) acc (by omega) (by omega) (by omega) h4 h
      refine ev_succ (ev_as (ev_bind (h := fun k t144 => (if (t144.size : Int) > 0 then (if acc.length < 8796093022208 then (catchpitref07_Items.l1 k xs (acc ++ [t144]) i ps (wrap64 ((j : Int) + 1))) else (none)) else (catchpitref07_Items.l1 k xs acc i ps (wrap64 ((j : Int) + 1))))) ht (ev_as key fun k => ?_)) fun k => ?_)
      · rw [if_neg (by omega), hw]
      · rw [catchpitref07_Items.l1, if_pos (by omega), if_pos (by omega), rdOf_nat]
    · rw [if_neg hz] at h
      have key := ih (j + 1) (acc ++ [trimS (ps.getD j ByteArray.empty)]) (by omega) (by omega) (by rw [List.length_append, List.length_singleton]; omega) h4 h
      refine ev_succ (ev_as (ev_bind (h := fun k t144 => (if (t144.size : Int) > 0 then (if acc.length < 8796093022208 then (catchpitref07_Items.l1 k xs (acc ++ [t144]) i ps (wrap64 ((j : Int) + 1))) else (none)) else (catchpitref07_Items.l1 k xs acc i ps (wrap64 ((j : Int) + 1))))) ht (ev_as key fun k => ?_)) fun k => ?_)
      · rw [if_pos (by omega), if_pos (by omega), hw]
      · rw [catchpitref07_Items.l1, if_pos (by omega), if_pos (by omega), rdOf_nat]
theorem ref07_Items_l0 (xs : List ByteArray) (hS : sumS xs ≤ 100000000) : ∀ (d i : Nat) (acc : List ByteArray), i ≤ xs.length → xs.length - i = d → acc.length + sumS (xs.drop i) ≤ 100000000 →
    Ev (fun k => catchpitref07_Items.l0 k xs acc (i : Int)) (acc ++ (xs.drop i).flatMap itemsP) := by
  have hlen := sumS_length xs
  intro d
  induction d with
  | zero =>
    intro i acc h1 h2 h3
    rw [List.drop_eq_nil_of_le (by omega), List.flatMap_nil, List.append_nil]
    refine ev_succ ⟨0, fun k _ => ?_⟩
    show catchpitref07_Items.l0 (k + 1) xs acc _ = _
    rw [catchpitref07_Items.l0, if_neg (by omega)]
  | succ d ih =>
    intro i acc h1 h2 h3
    have hi : i < xs.length := by omega
    have hw : wrap64 ((i : Int) + 1) = ((i + 1 : Nat) : Int) := by unfold wrap64; omega
    have hsz := sumS_at xs _ (mem_getD xs ByteArray.empty i hi)
    have hpl := itemsP_length (xs.getD i ByteArray.empty)
    have hpc := partsC_length 44 (xs.getD i ByteArray.empty)
    rw [sumS_drop xs i hi] at h3
    have key := ih (i + 1) (acc ++ itemsP (xs.getD i ByteArray.empty)) (by omega) (by omega) (by rw [List.length_append]; omega)
    rw [List.append_assoc, ← List.flatMap_cons, ← drop_cons xs ByteArray.empty i hi, itemsP_flat, ← hw] at key
    have h := ref07_Items_l1 xs i (partsB (xs.getD i ByteArray.empty)) (fun p hp => by have := partsC_size 44 _ p hp; omega) _ (partsB (xs.getD i ByteArray.empty)).length 0 acc (Nat.zero_le _) rfl (by rw [partsB_eq]; omega) (by rw [partsB_eq]; omega) key
    refine ev_succ (ev_as (ev_bind (h := fun k t140 => (catchpitref07_Items.l1 k xs acc i t140 0)) (ref07_cut (xs.getD i ByteArray.empty) 44 (by omega)) h) fun k => ?_)
    rw [catchpitref07_Items.l0, if_pos (by omega), if_pos (by omega), rdOf_nat]
    rfl
theorem ref07_Items (xs : List ByteArray) (hS : sumS xs ≤ 100000000) : Ev (fun k => catchpitref07_Items.f k xs) (itemsL xs) := by
  have := ref07_Items_l0 xs hS xs.length 0 [] (Nat.zero_le _) rfl (by simpa using hS)
  rw [itemsL_flat]
  exact this
theorem partsC_head (c : UInt8) (s : ByteArray) : ∃ r, partsC c s = cutL c s :: r := by
  have hc : cutL c s = mkB (Lib.cut s.data.toList [c]).1 := rfl
  have hx := index_at s.data.toList c
  by_cases h : s.data.toList.findIdx (· == c) < s.data.toList.length
  · refine ⟨(splitL c (s.data.toList.drop (s.data.toList.findIdx (· == c) + 1))).map mkB, ?_⟩
    unfold partsC
    rw [splitL_some c _ h, List.map_cons, hc]
    congr 2
    unfold Lib.cut
    rw [hx, if_pos h]
    simp
  · refine ⟨[], ?_⟩
    have hl : s.data.toList.findIdx (· == c) = s.data.toList.length := by have := List.findIdx_le_length (p := (· == c)) (xs := s.data.toList); omega
    unfold partsC
    rw [splitL_none c _ hl, hc]
    unfold Lib.cut
    rw [hx, if_neg h]
    rfl
theorem ref07_word (s : ByteArray) (hs : s.size ≤ 1000000000) : Ev (fun k => catchpitref07_word.f k s) (wordS s) := by
  obtain ⟨r, hr⟩ := partsC_head 59 s
  have h1 := ref07_cut s 59 hs
  have hz := cutL_size 59 s
  have h2 := ref02_Trim (cutL 59 s) (by omega)
  refine ev_as (ev_bind (h := fun k t150 => (if 0 < (t150.length : Int) then ((catchpitref02_Trim.f k (rdOf ByteArray.empty t150 0)).bind fun t154 => (some t154)) else (none))) h1 ?_) fun k => rfl
  rw [hr]
  refine ev_as (ev_bind (h := fun _ t => some t) h2 (ev_some _)) fun k => ?_
  rw [if_pos (by rw [List.length_cons]; omega)]
  rfl
end Go.Proofs.YtoanmbhenmlboaaDoorH
end
section
namespace Go.Proofs.YtoanmbhenmlboaaDoorH
open Go.RowKit Go.Proofs.YtoanmbhenmlboaaDoorW.PrintWords Go.Proofs.YtoanmbhenmlboaaDoorW.PrintLast Go.Proofs.YtoanmbhenmlboaaDoorW.PrintMore Go.Proofs.YtoanmbhenmlboaaDoor.Pr
theorem ref07_Has_l0 (w : ByteArray) (hw : w.size ≤ 100000000) (l : List ByteArray) (hl : ∀ y ∈ l, y.size ≤ 100000000) (hc : l.length ≤ 1000000000) : ∀ d i : Nat, i ≤ l.length → l.length - i = d →
    Ev (fun k => catchpitref07_Has.l0 k w l (i : Int)) (hasB (l.drop i) w) := by
  intro d
  induction d with
  | zero =>
    intro i h1 h2
    rw [List.drop_eq_nil_of_le (by omega)]
    refine ev_succ ⟨0, fun k _ => ?_⟩
    show catchpitref07_Has.l0 (k + 1) w l _ = _
    rw [catchpitref07_Has.l0, if_neg (by omega)]
    rfl
  | succ d ih =>
    intro i h1 h2
    have hi : i < l.length := by omega
    have hwr : wrap64 ((i : Int) + 1) = ((i + 1 : Nat) : Int) := by unfold wrap64; omega
    have hy := hl _ (mem_getD l ByteArray.empty i hi)
    have hz := wordS_size (l.getD i ByteArray.empty)
    obtain ⟨K1, g1⟩ := ref07_word (l.getD i ByteArray.empty) (by omega)
    obtain ⟨K2, g2⟩ := ref02_Small (wordS (l.getD i ByteArray.empty)) (by omega)
    obtain ⟨K3, g3⟩ := ref02_Small w (by omega)
    obtain ⟨K4, g4⟩ := ih (i + 1) (by omega) (by omega)
    dsimp only at g1 g2 g3 g4
    refine ev_succ ⟨K1 + K2 + K3 + K4, fun k hk => ?_⟩
    show catchpitref07_Has.l0 (k + 1) w l _ = _
    rw [catchpitref07_Has.l0, if_pos (by omega), if_pos (by omega), rdOf_nat, g1 k (by omega), Option.bind_some, g2 k (by omega), Option.bind_some, g3 k (by omega), Option.bind_some, hwr, drop_cons l ByteArray.empty i hi]
    unfold hasB
    rw [List.any_cons]
    by_cases he : smallS (wordS (l.getD i ByteArray.empty)) = smallS w
    · rw [if_pos ((eq_toList _ _).2 he)]
      unfold alikeB
      rw [decide_eq_true he, Bool.true_or]
    · rw [if_neg (fun h => he ((eq_toList _ _).1 h))]
      refine (g4 k (by omega)).trans ?_
      unfold alikeB
      rw [decide_eq_false he, Bool.false_or]
      rfl
theorem itemsL_at (xs : List ByteArray) (y : ByteArray) (h : y ∈ itemsL xs) : y.size ≤ sumS xs := by
  obtain ⟨p, hp, rfl⟩ := List.mem_map.1 h
  exact (itemsF_mem xs 0 p hp).2.2
theorem itemsL_length (xs : List ByteArray) : (itemsL xs).length ≤ sumS xs := by
  unfold itemsL
  rw [List.length_map]
  exact itemsF_length xs 0
theorem ref07_Has (w : ByteArray) (hw : w.size ≤ 100000000) (xs : List ByteArray) (hS : sumS xs ≤ 100000000) : Ev (fun k => catchpitref07_Has.f k w xs) (hasB (itemsL xs) w) := by
  have hn := itemsL_length xs
  have h := ref07_Has_l0 w hw (itemsL xs) (fun y hy => by have := itemsL_at xs y hy; omega) (by omega) (itemsL xs).length 0 (Nat.zero_le _) rfl
  exact ev_bind (h := fun k t164 => catchpitref07_Has.l0 k w t164 0) (ref07_Items xs hS) h
end Go.Proofs.YtoanmbhenmlboaaDoorH
end
section
namespace Go.Proofs.YtoanmbhenmlboaaDoor.Ph
open Go.RowKit Go.Proofs.YtoanmbhenmlboaaDoorH Go.Proofs.YtoanmbhenmlboaaDoorW.PrintWords Go.Proofs.YtoanmbhenmlboaaDoorW.PrintLast Go.Proofs.YtoanmbhenmlboaaDoorW.PrintMore Go.Proofs.YtoanmbhenmlboaaDoor.Pr
structure S41 where
  f0 : Int
  f1 : Int
def z41 : S41 := ⟨0, 0⟩
def k41 : Kd S41 := Kd.iso (Kd.pair (Kd.int .u8) (Kd.int .i64)) (fun x : S41 => (x.f0, x.f1))
theorem k41_open {w : World} {x : S41} {cs : List Value} (h : k41.K w x cs) : cs = [.int .u8 x.f0, .int .i64 x.f1] := by
  obtain ⟨_, _, rfl, rfl, rfl⟩ := h
  exact rfl
theorem at_op {w : World} {A : Option Addr} {n : Nat} {xs : List S41} (h : Kd.C k41 w A n xs) (k : Nat) (h1 : k < n) :
    ∃ ad, A = some ad ∧ w.cell? (ad.add (k * 2)) = some (.int .u8 (xs.getD k z41).f0) ∧ w.cell? ⟨(ad.add (k * 2)).block, (ad.add (k * 2)).off + 1, none⟩ = some (.int .i64 (xs.getD k z41).f1) := by
  obtain ⟨ad, c, e, _, hK, hc0⟩ := Kd.C_get h z41 (k : Int) (by omega) (by omega)
  have hc : ∀ j u, c[j]? = some u → w.cell? (ad.add ((k : Int).toNat * 2 + j)) = some u := hc0
  obtain rfl := k41_open hK
  rw [Int.toNat_natCast] at hc
  exact ⟨ad, e, hc 0 _ rfl, by rw [← add_field _ _ 1 (by omega)]; exact hc 1 _ rfl⟩
def catchpitlaw20_ExpectNever.f (_a0 : Int) (_l1 : List S41) : Option Bool := some true
end Go.Proofs.YtoanmbhenmlboaaDoor.Ph
end
section
namespace Go.Proofs.YtoanmbhenmlboaaDoor.Ph
open Go.RowKit Go.Proofs.YtoanmbhenmlboaaDoorH Go.Proofs.YtoanmbhenmlboaaDoorW.PrintWords Go.Proofs.YtoanmbhenmlboaaDoorW.PrintLast Go.Proofs.YtoanmbhenmlboaaDoorW.PrintMore Go.Proofs.YtoanmbhenmlboaaDoor.Pr
def nExpect : ByteArray := ⟨#[69, 120, 112, 101, 99, 116]⟩
def wContinue : ByteArray := ⟨#[49, 48, 48, 45, 99, 111, 110, 116, 105, 110, 117, 101]⟩
theorem sumS_getE (n : ByteArray) : ∀ l : List Fld, sumS (getL l n) ≤ sumF l
  | [] => Nat.le_refl _
  | x :: l => by
    have ih := sumS_getE n l
    unfold getL at ih ⊢
    rw [sumF_cons]
    cases h : isB x n with
    | true => rw [List.filter_cons_of_pos (p := fun x => isB x n) h, List.map_cons, sumS_cons]; omega
    | false => rw [List.filter_cons_of_neg (p := fun x => isB x n) (by simp [h])]; omega
theorem expects_eq (l : List Fld) (hl : Small1 l) (hs : sumF l ≤ 3000) : framing_Expects.f l = some (hasB (itemsL (getL l nExpect)) wContinue) := by
  have hc := sumF_length l
  have h1 := sumS_getE nExpect l
  unfold framing_Expects.f
  show (field_Get.f l nExpect).bind _ = _
  rw [field_Get_eq l nExpect hl (by decide) (by omega), Option.bind_some]
  unfold list_Has.f
  rw [if_pos ⟨by decide, by omega⟩, Option.bind_some]
  rfl
def catchpitlaw20_ExpectNone.f (l0 : List Fld) (_l1 : List S41) : Option Bool := if l0.length ≤ 140737488351232 ∧ ∀ y ∈ l0, y.f0.size ≤ 140737488351232 ∧ y.f1.size ≤ 140737488351232 then some true else none
end Go.Proofs.YtoanmbhenmlboaaDoor.Ph
end
