-- Printed by a program (wip/tools/pr.sh): one Lean function and its contract for each Go function.
import Derived.Test.YtdkecmjoenfjdaaDoorPrx0
import Derived.Test.YtdkecmjoenfjdaaDoorHBase
namespace Go.Proofs.YtdkecmjoenfjdaaDoor.Pr
open Go.RowKit Go.Proofs.YtdkecmjoenfjdaaDoorH Go.Proofs.YtdkecmjoenfjdaaDoorW.PrintWords Go.Proofs.YtdkecmjoenfjdaaDoorW.PrintLast Go.Proofs.YtdkecmjoenfjdaaDoorW.PrintMore
attribute [local go_sem] max2_int min2_int max_two min_two max_three min_three max_four min_four   -- for this text's walks alone
set_option linter.unusedVariables false
set_option linter.unusedSimpArgs false

/-! ### catchpitref02_token: function 65 -/
def catchpitref02_token.j0 : Nat → Int → Bool → Option (Bool)
  | 0, _, _ => none
  | k + 1, x0, x24 => if x24 = true then (some true) else (if x0 = 33 then (some true) else (if x0 = 35 then (some true) else (if x0 = 36 then (some true) else (if x0 = 37 then (some true) else (if x0 = 38 then (some true) else (if x0 = 39 then (some true) else (if x0 = 42 then (some true) else (if x0 = 43 then (some true) else (if x0 = 45 then (some true) else (if x0 = 46 then (some true) else (if x0 = 94 then (some true) else (if x0 = 95 then (some true) else (if x0 = 96 then (some true) else (if x0 = 124 then (some true) else (if x0 = 126 then (some true) else (some false))))))))))))))))
def catchpitref02_token.f (k : Nat) (a0 : Int) : Option (Bool) := if a0 ≥ 97 then (if a0 ≤ 122 then (catchpitref02_token.j0 k a0 true) else (if a0 ≥ 65 then (if a0 ≤ 90 then (catchpitref02_token.j0 k a0 true) else (if a0 ≥ 48 then (catchpitref02_token.j0 k a0 (decide (a0 ≤ 57))) else (catchpitref02_token.j0 k a0 false))) else (if a0 ≥ 48 then (catchpitref02_token.j0 k a0 (decide (a0 ≤ 57))) else (catchpitref02_token.j0 k a0 false)))) else (if a0 ≥ 65 then (if a0 ≤ 90 then (catchpitref02_token.j0 k a0 true) else (if a0 ≥ 48 then (catchpitref02_token.j0 k a0 (decide (a0 ≤ 57))) else (catchpitref02_token.j0 k a0 false))) else (if a0 ≥ 48 then (catchpitref02_token.j0 k a0 (decide (a0 ≤ 57))) else (catchpitref02_token.j0 k a0 false)))
theorem catchpitref02_token.mono_l : ∀ k, (∀ y0 y1, LeO (catchpitref02_token.j0 k y0 y1) (catchpitref02_token.j0 (k + 1) y0 y1))
  | 0 => fun _ _ r h => by simp [catchpitref02_token.j0] at h
  | k + 1 => by
    have ih0 := catchpitref02_token.mono_l k
    · intro y0 y1
      unfold catchpitref02_token.j0
      repeat' first
      | (with_reducible exact ih0 _ _)
      | (with_reducible exact LeO.refl _)
      | (with_reducible exact LeO.none _)
      | (with_reducible refine LeO.ite ?_ ?_)
      | (with_reducible refine LeO.bind ?_ (fun _ => ?_))
      | exact ih0 _ _
      | exact LeO.none _
      | refine LeO.ite ?_ ?_
      | refine LeO.bind ?_ (fun _ => ?_)
theorem catchpitref02_token.mono : ∀ a0 k, LeO (catchpitref02_token.f k a0) (catchpitref02_token.f (k + 1) a0) := by
  intro a0 k
  have ih0 := catchpitref02_token.mono_l k
  unfold catchpitref02_token.f
  repeat' first
      | (with_reducible exact ih0 _ _)
      | (with_reducible exact LeO.refl _)
      | (with_reducible exact LeO.none _)
      | (with_reducible refine LeO.ite ?_ ?_)
      | (with_reducible refine LeO.bind ?_ (fun _ => ?_))
      | exact ih0 _ _
      | exact LeO.none _
      | refine LeO.ite ?_ ?_
      | refine LeO.bind ?_ (fun _ => ?_)
set_option maxHeartbeats 8000000 in
set_option maxRecDepth 100000 in
theorem catchpitref02_token.calls (k : Nat) (a0 : Int) (r : Bool) (w : World) (hG : TabOk w) (h : catchpitref02_token.f k a0 = some r) :
    Calls Tryd.prog 65 #[.int .u8 a0] w fun e w' => e = .returned (.bool r) ∧ Drawn0 w w' := by
  have H : (if a0 ≥ 97 then (if a0 ≤ 122 then (catchpitref02_token.j0 k a0 true) else (if a0 ≥ 65 then (if a0 ≤ 90 then (catchpitref02_token.j0 k a0 true) else (if a0 ≥ 48 then (catchpitref02_token.j0 k a0 (decide (a0 ≤ 57))) else (catchpitref02_token.j0 k a0 false))) else (if a0 ≥ 48 then (catchpitref02_token.j0 k a0 (decide (a0 ≤ 57))) else (catchpitref02_token.j0 k a0 false)))) else (if a0 ≥ 65 then (if a0 ≤ 90 then (catchpitref02_token.j0 k a0 true) else (if a0 ≥ 48 then (catchpitref02_token.j0 k a0 (decide (a0 ≤ 57))) else (catchpitref02_token.j0 k a0 false))) else (if a0 ≥ 48 then (catchpitref02_token.j0 k a0 (decide (a0 ≤ 57))) else (catchpitref02_token.j0 k a0 false)))) = some r := h
  clear h
  have HC2 := Aside0.mk H
  clear H
  go_enter Tryd.func65, Tryd.ntmps65
  go_upto_region 1 with (fail)
  go_cut [24] (fun v24 wc => ∃ (kq : Nat) (x24_1 : Bool), v24 = .bool x24_1 ∧ Aside0 (catchpitref02_token.j0 kq a0 x24_1 = some r) ∧ Aside0 (kq ≤ k) ∧ Drawn0 w wc)
  case first =>
    have H := HC2.out
    clear HC2
    by_cases c3 : a0 ≥ 97
    · rw [if_pos c3] at H
      have c3b0 : decide (97 ≤ a0) = true := decide_eq_true c3
      clear c3
      (first | rw [c3b0] | (simp only [i64_w, i32_w]; rw [c3b0]) | skip)
      by_cases c4 : a0 ≤ 122
      · rw [if_pos c4] at H
        have c4b0 : decide (a0 ≤ 122) = true := decide_eq_true c4
        clear c4
        have H' := Aside0.mk H
        clear H
        go_wp2
        go_meet
        case rel => exact ⟨_, (true), (by first | rfl | (simp; done) | (simp [*]; done)), H', ⟨by first | omega | exact Nat.le_refl _⟩, by repeat (first | exact Drawn0.refl _ | apply Drawn0.step)⟩
      · rw [if_neg c4] at H
        have c4b0 : decide (a0 ≤ 122) = false := decide_eq_false c4
        clear c4
        by_cases c5 : a0 ≥ 65
        · rw [if_pos c5] at H
          have c5b0 : decide (65 ≤ a0) = true := decide_eq_true c5
          clear c5
          by_cases c6 : a0 ≤ 90
          · rw [if_pos c6] at H
            have c6b0 : decide (a0 ≤ 90) = true := decide_eq_true c6
            clear c6
            have H' := Aside0.mk H
            clear H
            go_wp2
            go_meet
            case rel => exact ⟨_, (true), (by first | rfl | (simp; done) | (simp [*]; done)), H', ⟨by first | omega | exact Nat.le_refl _⟩, by repeat (first | exact Drawn0.refl _ | apply Drawn0.step)⟩
          · rw [if_neg c6] at H
            have c6b0 : decide (a0 ≤ 90) = false := decide_eq_false c6
            clear c6
            by_cases c7 : a0 ≥ 48
            · rw [if_pos c7] at H
              have c7b0 : decide (48 ≤ a0) = true := decide_eq_true c7
              clear c7
              have H' := Aside0.mk H
              clear H
              go_wp2
              go_meet
              case rel => exact ⟨_, (decide (a0 ≤ 57)), (by first | rfl | (simp; done) | (simp [*]; done)), H', ⟨by first | omega | exact Nat.le_refl _⟩, by repeat (first | exact Drawn0.refl _ | apply Drawn0.step)⟩
            · rw [if_neg c7] at H
              have c7b0 : decide (48 ≤ a0) = false := decide_eq_false c7
              clear c7
              have H' := Aside0.mk H
              clear H
              go_wp2
              go_meet
              case rel => exact ⟨_, (false), (by first | rfl | (simp; done) | (simp [*]; done)), H', ⟨by first | omega | exact Nat.le_refl _⟩, by repeat (first | exact Drawn0.refl _ | apply Drawn0.step)⟩
        · rw [if_neg c5] at H
          have c5b0 : decide (65 ≤ a0) = false := decide_eq_false c5
          clear c5
          by_cases c8 : a0 ≥ 48
          · rw [if_pos c8] at H
            have c8b0 : decide (48 ≤ a0) = true := decide_eq_true c8
            clear c8
            have H' := Aside0.mk H
            clear H
            go_wp2
            go_meet
            case rel => exact ⟨_, (decide (a0 ≤ 57)), (by first | rfl | (simp; done) | (simp [*]; done)), H', ⟨by first | omega | exact Nat.le_refl _⟩, by repeat (first | exact Drawn0.refl _ | apply Drawn0.step)⟩
          · rw [if_neg c8] at H
            have c8b0 : decide (48 ≤ a0) = false := decide_eq_false c8
            clear c8
            have H' := Aside0.mk H
            clear H
            go_wp2
            go_meet
            case rel => exact ⟨_, (false), (by first | rfl | (simp; done) | (simp [*]; done)), H', ⟨by first | omega | exact Nat.le_refl _⟩, by repeat (first | exact Drawn0.refl _ | apply Drawn0.step)⟩
    · rw [if_neg c3] at H
      have c3b0 : decide (97 ≤ a0) = false := decide_eq_false c3
      clear c3
      (first | rw [c3b0] | (simp only [i64_w, i32_w]; rw [c3b0]) | skip)
      by_cases c9 : a0 ≥ 65
      · rw [if_pos c9] at H
        have c9b0 : decide (65 ≤ a0) = true := decide_eq_true c9
        clear c9
        by_cases c10 : a0 ≤ 90
        · rw [if_pos c10] at H
          have c10b0 : decide (a0 ≤ 90) = true := decide_eq_true c10
          clear c10
          have H' := Aside0.mk H
          clear H
          go_wp2
          go_meet
          case rel => exact ⟨_, (true), (by first | rfl | (simp; done) | (simp [*]; done)), H', ⟨by first | omega | exact Nat.le_refl _⟩, by repeat (first | exact Drawn0.refl _ | apply Drawn0.step)⟩
        · rw [if_neg c10] at H
          have c10b0 : decide (a0 ≤ 90) = false := decide_eq_false c10
          clear c10
          by_cases c11 : a0 ≥ 48
          · rw [if_pos c11] at H
            have c11b0 : decide (48 ≤ a0) = true := decide_eq_true c11
            clear c11
            have H' := Aside0.mk H
            clear H
            go_wp2
            go_meet
            case rel => exact ⟨_, (decide (a0 ≤ 57)), (by first | rfl | (simp; done) | (simp [*]; done)), H', ⟨by first | omega | exact Nat.le_refl _⟩, by repeat (first | exact Drawn0.refl _ | apply Drawn0.step)⟩
          · rw [if_neg c11] at H
            have c11b0 : decide (48 ≤ a0) = false := decide_eq_false c11
            clear c11
            have H' := Aside0.mk H
            clear H
            go_wp2
            go_meet
            case rel => exact ⟨_, (false), (by first | rfl | (simp; done) | (simp [*]; done)), H', ⟨by first | omega | exact Nat.le_refl _⟩, by repeat (first | exact Drawn0.refl _ | apply Drawn0.step)⟩
      · rw [if_neg c9] at H
        have c9b0 : decide (65 ≤ a0) = false := decide_eq_false c9
        clear c9
        by_cases c12 : a0 ≥ 48
        · rw [if_pos c12] at H
          have c12b0 : decide (48 ≤ a0) = true := decide_eq_true c12
          clear c12
          have H' := Aside0.mk H
          clear H
          go_wp2
          go_meet
          case rel => exact ⟨_, (decide (a0 ≤ 57)), (by first | rfl | (simp; done) | (simp [*]; done)), H', ⟨by first | omega | exact Nat.le_refl _⟩, by repeat (first | exact Drawn0.refl _ | apply Drawn0.step)⟩
        · rw [if_neg c12] at H
          have c12b0 : decide (48 ≤ a0) = false := decide_eq_false c12
          clear c12
          have H' := Aside0.mk H
          clear H
          go_wp2
          go_meet
          case rel => exact ⟨_, (false), (by first | rfl | (simp; done) | (simp [*]; done)), H', ⟨by first | omega | exact Nat.le_refl _⟩, by repeat (first | exact Drawn0.refl _ | apply Drawn0.step)⟩
  case rest =>
    clear HC2
    try clear c1
    try clear p2
    try clear c3
    try clear c3b0
    try clear c4
    try clear c4b0
    try clear c5
    try clear c5b0
    try clear c6
    try clear c6b0
    try clear c7
    try clear c7b0
    try clear c8
    try clear c8b0
    try clear c9
    try clear c9b0
    try clear c10
    try clear c10b0
    try clear c11
    try clear c11b0
    try clear c12
    try clear c12b0
    obtain ⟨kq, x24_1, rfl, HA, HJ1, ⟨mc1, rfl⟩⟩ := hcut
    cases kq with
    | zero => exact absurd HA.out (by simp [catchpitref02_token.j0])
    | succ kj1 =>
      have H := HA.out
      clear HA
      simp only [catchpitref02_token.j0] at H
      by_cases c13 : x24_1 = true
      · subst c13
        have H1 : (some true) = some r := by rw [if_pos rfl] at H; exact H
        clear H
        have H := H1
        clear H1
        obtain rfl := Option.some.inj H
        go_wp2
        go_ret
        exact ⟨by first | rfl | (simp; done) | (simp [*]; done), by repeat (first | exact Drawn0.refl _ | apply Drawn0.step)⟩
      · replace c13 := Bool.eq_false_iff.mpr c13
        subst c13
        have H1 : (if a0 = 33 then (some true) else (if a0 = 35 then (some true) else (if a0 = 36 then (some true) else (if a0 = 37 then (some true) else (if a0 = 38 then (some true) else (if a0 = 39 then (some true) else (if a0 = 42 then (some true) else (if a0 = 43 then (some true) else (if a0 = 45 then (some true) else (if a0 = 46 then (some true) else (if a0 = 94 then (some true) else (if a0 = 95 then (some true) else (if a0 = 96 then (some true) else (if a0 = 124 then (some true) else (if a0 = 126 then (some true) else (some false)))))))))))))))) = some r := by rw [if_neg (show ¬ (false = true) by decide)] at H; exact H
        clear H
        have H := H1
        clear H1
        by_cases c14 : a0 = 33
        · rw [if_pos c14] at H
          have c14b0 : (a0 == 33) = true := beq_iff_eq.mpr c14
          have c14b1 : (a0 != 33) = false := bne_eq_false_iff_eq.mpr c14
          clear c14
          obtain rfl := Option.some.inj H
          go_wp2
          go_ret
          exact ⟨by first | rfl | (simp; done) | (simp [*]; done), by repeat (first | exact Drawn0.refl _ | apply Drawn0.step)⟩
        · rw [if_neg c14] at H
          have c14b0 : (a0 == 33) = false := beq_eq_false_iff_ne.mpr c14
          have c14b1 : (a0 != 33) = true := bne_iff_ne.mpr c14
          by_cases c15 : a0 = 35
          · rw [if_pos c15] at H
            have c15b0 : (a0 == 35) = true := beq_iff_eq.mpr c15
            have c15b1 : (a0 != 35) = false := bne_eq_false_iff_eq.mpr c15
            clear c15
            obtain rfl := Option.some.inj H
            go_wp2
            go_ret
            exact ⟨by first | rfl | (simp; done) | (simp [*]; done), by repeat (first | exact Drawn0.refl _ | apply Drawn0.step)⟩
          · rw [if_neg c15] at H
            have c15b0 : (a0 == 35) = false := beq_eq_false_iff_ne.mpr c15
            have c15b1 : (a0 != 35) = true := bne_iff_ne.mpr c15
            by_cases c16 : a0 = 36
            · rw [if_pos c16] at H
              have c16b0 : (a0 == 36) = true := beq_iff_eq.mpr c16
              have c16b1 : (a0 != 36) = false := bne_eq_false_iff_eq.mpr c16
              clear c16
              obtain rfl := Option.some.inj H
              go_wp2
              go_ret
              exact ⟨by first | rfl | (simp; done) | (simp [*]; done), by repeat (first | exact Drawn0.refl _ | apply Drawn0.step)⟩
            · rw [if_neg c16] at H
              have c16b0 : (a0 == 36) = false := beq_eq_false_iff_ne.mpr c16
              have c16b1 : (a0 != 36) = true := bne_iff_ne.mpr c16
              by_cases c17 : a0 = 37
              · rw [if_pos c17] at H
                have c17b0 : (a0 == 37) = true := beq_iff_eq.mpr c17
                have c17b1 : (a0 != 37) = false := bne_eq_false_iff_eq.mpr c17
                clear c17
                obtain rfl := Option.some.inj H
                go_wp2
                go_ret
                exact ⟨by first | rfl | (simp; done) | (simp [*]; done), by repeat (first | exact Drawn0.refl _ | apply Drawn0.step)⟩
              · rw [if_neg c17] at H
                have c17b0 : (a0 == 37) = false := beq_eq_false_iff_ne.mpr c17
                have c17b1 : (a0 != 37) = true := bne_iff_ne.mpr c17
                by_cases c18 : a0 = 38
                · rw [if_pos c18] at H
                  have c18b0 : (a0 == 38) = true := beq_iff_eq.mpr c18
                  have c18b1 : (a0 != 38) = false := bne_eq_false_iff_eq.mpr c18
                  clear c18
                  obtain rfl := Option.some.inj H
                  go_wp2
                  go_ret
                  exact ⟨by first | rfl | (simp; done) | (simp [*]; done), by repeat (first | exact Drawn0.refl _ | apply Drawn0.step)⟩
                · rw [if_neg c18] at H
                  have c18b0 : (a0 == 38) = false := beq_eq_false_iff_ne.mpr c18
                  have c18b1 : (a0 != 38) = true := bne_iff_ne.mpr c18
                  by_cases c19 : a0 = 39
                  · rw [if_pos c19] at H
                    have c19b0 : (a0 == 39) = true := beq_iff_eq.mpr c19
                    have c19b1 : (a0 != 39) = false := bne_eq_false_iff_eq.mpr c19
                    clear c19
                    obtain rfl := Option.some.inj H
                    go_wp2
                    go_ret
                    exact ⟨by first | rfl | (simp; done) | (simp [*]; done), by repeat (first | exact Drawn0.refl _ | apply Drawn0.step)⟩
                  · rw [if_neg c19] at H
                    have c19b0 : (a0 == 39) = false := beq_eq_false_iff_ne.mpr c19
                    have c19b1 : (a0 != 39) = true := bne_iff_ne.mpr c19
                    by_cases c20 : a0 = 42
                    · rw [if_pos c20] at H
                      have c20b0 : (a0 == 42) = true := beq_iff_eq.mpr c20
                      have c20b1 : (a0 != 42) = false := bne_eq_false_iff_eq.mpr c20
                      clear c20
                      obtain rfl := Option.some.inj H
                      go_wp2
                      go_ret
                      exact ⟨by first | rfl | (simp; done) | (simp [*]; done), by repeat (first | exact Drawn0.refl _ | apply Drawn0.step)⟩
                    · rw [if_neg c20] at H
                      have c20b0 : (a0 == 42) = false := beq_eq_false_iff_ne.mpr c20
                      have c20b1 : (a0 != 42) = true := bne_iff_ne.mpr c20
                      by_cases c21 : a0 = 43
                      · rw [if_pos c21] at H
                        have c21b0 : (a0 == 43) = true := beq_iff_eq.mpr c21
                        have c21b1 : (a0 != 43) = false := bne_eq_false_iff_eq.mpr c21
                        clear c21
                        obtain rfl := Option.some.inj H
                        go_wp2
                        go_ret
                        exact ⟨by first | rfl | (simp; done) | (simp [*]; done), by repeat (first | exact Drawn0.refl _ | apply Drawn0.step)⟩
                      · rw [if_neg c21] at H
                        have c21b0 : (a0 == 43) = false := beq_eq_false_iff_ne.mpr c21
                        have c21b1 : (a0 != 43) = true := bne_iff_ne.mpr c21
                        by_cases c22 : a0 = 45
                        · rw [if_pos c22] at H
                          have c22b0 : (a0 == 45) = true := beq_iff_eq.mpr c22
                          have c22b1 : (a0 != 45) = false := bne_eq_false_iff_eq.mpr c22
                          clear c22
                          obtain rfl := Option.some.inj H
                          go_wp2
                          go_ret
                          exact ⟨by first | rfl | (simp; done) | (simp [*]; done), by repeat (first | exact Drawn0.refl _ | apply Drawn0.step)⟩
                        · rw [if_neg c22] at H
                          have c22b0 : (a0 == 45) = false := beq_eq_false_iff_ne.mpr c22
                          have c22b1 : (a0 != 45) = true := bne_iff_ne.mpr c22
                          by_cases c23 : a0 = 46
                          · rw [if_pos c23] at H
                            have c23b0 : (a0 == 46) = true := beq_iff_eq.mpr c23
                            have c23b1 : (a0 != 46) = false := bne_eq_false_iff_eq.mpr c23
                            clear c23
                            obtain rfl := Option.some.inj H
                            go_wp2
                            go_ret
                            exact ⟨by first | rfl | (simp; done) | (simp [*]; done), by repeat (first | exact Drawn0.refl _ | apply Drawn0.step)⟩
                          · rw [if_neg c23] at H
                            have c23b0 : (a0 == 46) = false := beq_eq_false_iff_ne.mpr c23
                            have c23b1 : (a0 != 46) = true := bne_iff_ne.mpr c23
                            by_cases c24 : a0 = 94
                            · rw [if_pos c24] at H
                              have c24b0 : (a0 == 94) = true := beq_iff_eq.mpr c24
                              have c24b1 : (a0 != 94) = false := bne_eq_false_iff_eq.mpr c24
                              clear c24
                              obtain rfl := Option.some.inj H
                              go_wp2
                              go_ret
                              exact ⟨by first | rfl | (simp; done) | (simp [*]; done), by repeat (first | exact Drawn0.refl _ | apply Drawn0.step)⟩
                            · rw [if_neg c24] at H
                              have c24b0 : (a0 == 94) = false := beq_eq_false_iff_ne.mpr c24
                              have c24b1 : (a0 != 94) = true := bne_iff_ne.mpr c24
                              by_cases c25 : a0 = 95
                              · rw [if_pos c25] at H
                                have c25b0 : (a0 == 95) = true := beq_iff_eq.mpr c25
                                have c25b1 : (a0 != 95) = false := bne_eq_false_iff_eq.mpr c25
                                clear c25
                                obtain rfl := Option.some.inj H
                                go_wp2
                                go_ret
                                exact ⟨by first | rfl | (simp; done) | (simp [*]; done), by repeat (first | exact Drawn0.refl _ | apply Drawn0.step)⟩
                              · rw [if_neg c25] at H
                                have c25b0 : (a0 == 95) = false := beq_eq_false_iff_ne.mpr c25
                                have c25b1 : (a0 != 95) = true := bne_iff_ne.mpr c25
                                by_cases c26 : a0 = 96
                                · rw [if_pos c26] at H
                                  have c26b0 : (a0 == 96) = true := beq_iff_eq.mpr c26
                                  have c26b1 : (a0 != 96) = false := bne_eq_false_iff_eq.mpr c26
                                  clear c26
                                  obtain rfl := Option.some.inj H
                                  go_wp2
                                  go_ret
                                  exact ⟨by first | rfl | (simp; done) | (simp [*]; done), by repeat (first | exact Drawn0.refl _ | apply Drawn0.step)⟩
                                · rw [if_neg c26] at H
                                  have c26b0 : (a0 == 96) = false := beq_eq_false_iff_ne.mpr c26
                                  have c26b1 : (a0 != 96) = true := bne_iff_ne.mpr c26
                                  by_cases c27 : a0 = 124
                                  · rw [if_pos c27] at H
                                    have c27b0 : (a0 == 124) = true := beq_iff_eq.mpr c27
                                    have c27b1 : (a0 != 124) = false := bne_eq_false_iff_eq.mpr c27
                                    clear c27
                                    obtain rfl := Option.some.inj H
                                    go_wp2
                                    go_ret
                                    exact ⟨by first | rfl | (simp; done) | (simp [*]; done), by repeat (first | exact Drawn0.refl _ | apply Drawn0.step)⟩
                                  · rw [if_neg c27] at H
                                    have c27b0 : (a0 == 124) = false := beq_eq_false_iff_ne.mpr c27
                                    have c27b1 : (a0 != 124) = true := bne_iff_ne.mpr c27
                                    by_cases c28 : a0 = 126
                                    · rw [if_pos c28] at H
                                      have c28b0 : (a0 == 126) = true := beq_iff_eq.mpr c28
                                      have c28b1 : (a0 != 126) = false := bne_eq_false_iff_eq.mpr c28
                                      clear c28
                                      obtain rfl := Option.some.inj H
                                      go_wp2
                                      go_ret
                                      exact ⟨by first | rfl | (simp; done) | (simp [*]; done), by repeat (first | exact Drawn0.refl _ | apply Drawn0.step)⟩
                                    · rw [if_neg c28] at H
                                      have c28b0 : (a0 == 126) = false := beq_eq_false_iff_ne.mpr c28
                                      have c28b1 : (a0 != 126) = true := bne_iff_ne.mpr c28
                                      obtain rfl := Option.some.inj H
                                      go_wp2
                                      go_ret
                                      exact ⟨by first | rfl | (simp; done) | (simp [*]; done), by repeat (first | exact Drawn0.refl _ | apply Drawn0.step)⟩

end Go.Proofs.YtdkecmjoenfjdaaDoor.Pr
