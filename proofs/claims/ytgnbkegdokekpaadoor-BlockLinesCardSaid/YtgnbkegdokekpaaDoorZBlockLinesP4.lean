import Derived.Test.YtgnbkegdokekpaaDoorZBlockLinesP3
import Derived.Test.YtgnbkegdokekpaaDoorZBlockLinesP1
import Derived.Test.YtgnbkegdokekpaaDoorRows
import Derived.LaidSub
import Derived.MakeChecks
import Derived.ProofKit
import Derived.OpenShut
import Derived.LaidMore
import Derived.Deep.Slices
import Derived.SizedLaws
import Derived.HandedShaped
import Derived.Handed
namespace Go.Proofs.YtgnbkegdokekpaaDoorH
end Go.Proofs.YtgnbkegdokekpaaDoorH
namespace Go.Proofs.YtgnbkegdokekpaaDoorW.PrintWords
end Go.Proofs.YtgnbkegdokekpaaDoorW.PrintWords
namespace Go.Proofs.YtgnbkegdokekpaaDoorW.PrintLast
end Go.Proofs.YtgnbkegdokekpaaDoorW.PrintLast
namespace Go.Proofs.YtgnbkegdokekpaaDoorW.PrintMore
end Go.Proofs.YtgnbkegdokekpaaDoorW.PrintMore
namespace Go.Proofs.YtgnbkegdokekpaaDoor.Pr
end Go.Proofs.YtgnbkegdokekpaaDoor.Pr
namespace Go.Proofs.YtgnbkegdokekpaaDoor.Pk
end Go.Proofs.YtgnbkegdokekpaaDoor.Pk
section
namespace Go.Proofs.YtgnbkegdokekpaaDoor.Pr
open Go.RowKit Go.Proofs.YtgnbkegdokekpaaDoorH Go.Proofs.YtgnbkegdokekpaaDoorW.PrintWords Go.Proofs.YtgnbkegdokekpaaDoorW.PrintLast Go.Proofs.YtgnbkegdokekpaaDoorW.PrintMore
attribute [local go_sem] max2_int min2_int max_two min_two max_three min_three max_four min_four   -- for this text's walks alone
set_option linter.unusedVariables false
set_option linter.unusedSimpArgs false
def catchpitref06_Lines.l0 : Nat → ByteArray → List (S29) → Int → Option ((List (S29)))
  | 0, _, _, _ => none
  | k + 1, x0, x3, x4 => if 0 ≤ x4 then (if x4 ≤ (x0.size : Int) then ((catchpitref06_End.f k (x0.extract (x4 : Int).toNat x0.size)).bind fun t129 => (if t129 < 0 then (some x3) else (if x4 ≤ (wrap64 ((wrap64 (x4 + t129)) - 2)) then (if (wrap64 ((wrap64 (x4 + t129)) - 2)) ≤ (x0.size : Int) then (if x3.length < 5864062014805 then ((some (x3 ++ [(⟨x4, x0.extract (x4 : Int).toNat ((wrap64 ((wrap64 (x4 + t129)) - 2)) : Int).toNat⟩ : S29)] : List (S29))).bind fun y130 => (if t129 = 2 then (some y130) else (catchpitref06_Lines.l0 k x0 y130 (wrap64 (x4 + t129))))) else (none)) else (none)) else (none)))) else (none)) else (none)
def catchpitref06_Lines.f (k : Nat) (a0 : ByteArray) : Option ((List (S29))) := catchpitref06_Lines.l0 k a0 ([] : List (S29)) 0
theorem catchpitref06_Lines.mono_l : ∀ k, (∀ y0 y1 y2, LeO (catchpitref06_Lines.l0 k y0 y1 y2) (catchpitref06_Lines.l0 (k + 1) y0 y1 y2))
  | 0 => fun _ _ _ r h => by simp [catchpitref06_Lines.l0] at h
  | k + 1 => by
    have ih0 := catchpitref06_Lines.mono_l k
    · intro y0 y1 y2
      unfold catchpitref06_Lines.l0
      repeat' first
      | (with_reducible exact ih0 _ _ _)
      | (with_reducible exact catchpitref06_End.mono _ _)
      | (with_reducible exact LeO.refl _)
      | (with_reducible exact LeO.none _)
      | (with_reducible refine LeO.ite ?_ ?_)
      | (with_reducible refine LeO.bind ?_ (fun _ => ?_))
      | exact ih0 _ _ _
      | exact catchpitref06_End.mono _ _
      | exact LeO.none _
      | refine LeO.ite ?_ ?_
      | refine LeO.bind ?_ (fun _ => ?_)
theorem catchpitref06_Lines.mono : ∀ a0 k, LeO (catchpitref06_Lines.f k a0) (catchpitref06_Lines.f (k + 1) a0) := by
  intro a0 k
  have ih0 := catchpitref06_Lines.mono_l k
  unfold catchpitref06_Lines.f
  repeat' first
      | (with_reducible exact ih0 _ _ _)
      | (with_reducible exact catchpitref06_End.mono _ _)
      | (with_reducible exact LeO.refl _)
      | (with_reducible exact LeO.none _)
      | (with_reducible refine LeO.ite ?_ ?_)
      | (with_reducible refine LeO.bind ?_ (fun _ => ?_))
      | exact ih0 _ _ _
      | exact catchpitref06_End.mono _ _
      | exact LeO.none _
      | refine LeO.ite ?_ ?_
      | refine LeO.bind ?_ (fun _ => ?_)
set_option maxHeartbeats 8000000 in
set_option maxRecDepth 100000 in
theorem catchpitref06_Lines.calls (k : Nat) (a0 : ByteArray) (r : List (S29)) (w : World) (hG : TabOk w) (h : catchpitref06_Lines.f k a0 = some r) :
    Calls Tryd.prog 5 #[.string a0] w fun e w' => ∃ v0_ : Value, e = .returned (v0_) ∧ Kd.R k29 29 w' w.heap.size (fun _ => True) v0_ r ∧ Below w.heap.size w w' := by
  have hu29 := Tryd.underlying29
  have HB := Aside0.mk (Below.refl w.heap.size w)
  have H : (catchpitref06_Lines.l0 k a0 ([] : List (S29)) 0) = some r := h
  clear h
  have H' := Aside0.mk H
  clear H
  go_enter Tryd.func5, Tryd.ntmps5
  go_wp2
  go_loopg [3, 4] k (fun kq v3 v4 w' => ∃ (x3_1 : List (S29)) (x4_1 : Int), v4 = .int .i64 x4_1 ∧ Aside0 (catchpitref06_Lines.l0 kq a0 x3_1 x4_1 = some r) ∧ Aside0 (kq ≤ k) ∧ Aside0 (Kd.R k29 29 w' w.heap.size (fun _ => True) v3 x3_1) ∧ Aside0 (Below w.heap.size w w'))
  case atStart => exact ⟨(([] : List (S29))), (0), (by first | rfl | (simp; done) | (simp [*]; done)), H', ⟨Nat.le_refl _⟩, ⟨by first | exact Kd.R_nil _ _ _ _ _ | exact Kd.N_nil _ _ _ _ _ | exact Kd.V_nil _ _ _ _ _ | exact Kd.Q_nil _ _ _ _ _ | exact Kd.S_nil _ _ _ _ _⟩, ⟨by repeat (first | (with_reducible first | exact HB.out | apply below_alloc | apply pw_below_drewN | apply below_drew1) | exact HB.out)⟩⟩
  case round =>
    clear H'
    obtain ⟨x3_1, x4_1, rfl, HA, HK1, HO_3, HB⟩ := hrel
    cases gk with
    | zero => exact absurd HA.out (by simp [catchpitref06_Lines.l0])
    | succ k1 =>
      have H := HA.out
      clear HA
      simp only [catchpitref06_Lines.l0] at H
      by_cases c2 : 0 ≤ x4_1
      · rw [if_pos c2] at H
        have c2b0 := eq_true c2
        have c2b1 : decide (0 ≤ x4_1) = true := decide_eq_true c2
        clear c2
        by_cases c3 : x4_1 ≤ (a0.size : Int)
        · rw [if_pos c3] at H
          have c3b0 := eq_true c3
          have c3b1 : decide (x4_1 ≤ (a0.size : Int)) = true := decide_eq_true c3
          clear c3
          replace H := Option.bind_eq_some_iff.mp H
          obtain ⟨t129, A40, H⟩ := H
          replace H : (if t129 < 0 then (some x3_1) else (if x4_1 ≤ (wrap64 ((wrap64 (x4_1 + t129)) - 2)) then (if (wrap64 ((wrap64 (x4_1 + t129)) - 2)) ≤ (a0.size : Int) then (if x3_1.length < 5864062014805 then ((some (x3_1 ++ [(⟨x4_1, a0.extract (x4_1 : Int).toNat ((wrap64 ((wrap64 (x4_1 + t129)) - 2)) : Int).toNat⟩ : S29)] : List (S29))).bind fun y130 => (if t129 = 2 then (some y130) else (catchpitref06_Lines.l0 k1 a0 y130 (wrap64 (x4_1 + t129))))) else (none)) else (none)) else (none))) = some r := H
          have A4 := Aside0.mk A40
          clear A40
          by_cases c5 : t129 < 0
          · rw [if_pos c5] at H
            have c5b0 : decide (t129 < 0) = true := decide_eq_true c5
            clear c5
            obtain rfl := Option.some.inj H
            go_wp2_with (first | ((with_reducible refine gate_callee (f := 8) rfl ?_); refine goesL_ (some 9) rfl rfl Tryd.func8 (by kernel_rfl) rfl #[.string (a0.extract (x4_1 : Int).toNat a0.size)] rfl (by (try simp only [List.map_toArray, List.map_cons, List.map_nil]); first | done | rfl | (simp only [List.length_drop, List.length_take]; rfl)) ?_; (with_reducible refine (catchpitref06_End.calls k1 (a0.extract (x4_1 : Int).toNat a0.size) t129 _ ?side1 A4.out).mono ?_); (case side1 => first | exact hG | exact TabOk.drewN hG _ | exact TabOk.drewN (TabOk.drewN hG _) _ | exact TabOk.below hG (by repeat (first | (with_reducible first | exact HB.out | apply below_alloc | apply pw_below_drewN | apply below_drew1) | exact HB.out))); rintro e w' ⟨rfl, ⟨nd, rfl⟩⟩; refine ⟨_, rfl, ?_⟩))
            go_ret
            exact ⟨_, by first | rfl | (simp [errW_none, errW_some] <;> rfl) | (simp [*, errW_none, errW_some] <;> rfl), by (with_reducible repeat (first | apply Kd.R_alloc | apply Kd.R_drewN | apply Kd.R_drew)); exact HO_3.out, by repeat (first | (with_reducible first | exact HB.out | apply below_alloc | apply pw_below_drewN | apply below_drew1) | exact HB.out)⟩
          · rw [if_neg c5] at H
            have c5b0 : decide (t129 < 0) = false := decide_eq_false c5
            clear c5
            have c6b0 := eq_true (of_decide_eq_true (by first | (with_reducible assumption) | assumption) : 0 ≤ x4_1)
            by_cases c7 : x4_1 ≤ (wrap64 ((wrap64 (x4_1 + t129)) - 2))
            · rw [if_pos c7] at H
              have c7b0 := eq_true c7
              have c7b1 : decide (x4_1 ≤ (wrap64 ((wrap64 (x4_1 + t129)) - 2))) = true := decide_eq_true c7
              by_cases c8 : (wrap64 ((wrap64 (x4_1 + t129)) - 2)) ≤ (a0.size : Int)
              · rw [if_pos c8] at H
                have c8b0 := eq_true c8
                have c8b1 : decide ((wrap64 ((wrap64 (x4_1 + t129)) - 2)) ≤ (a0.size : Int)) = true := decide_eq_true c8
                by_cases c9 : x3_1.length < 5864062014805
                · rw [if_pos c9] at H
                  have LMc9 := Aside0.mk c9
                  clear c9
                  obtain ⟨y130, hy130⟩ : ∃ y_ : List (S29), y_ = (x3_1 ++ [(⟨x4_1, a0.extract (x4_1 : Int).toNat ((wrap64 ((wrap64 (x4_1 + t129)) - 2)) : Int).toNat⟩ : S29)]) := ⟨_, rfl⟩
                  replace H : (if t129 = 2 then (some y130) else (catchpitref06_Lines.l0 k1 a0 y130 (wrap64 (x4_1 + t129)))) = some r := by first | (rw [hy130]; with_reducible exact H) | (have H2_ := (Option.bind_some _ _).symm.trans H; rw [hy130]; with_reducible exact H2_) | (have H2_ := (Option.bind_some _ _).symm.trans H; with_reducible exact H2_) | with_reducible exact H | (rw [hy130]; exact H) | exact H
                  have Ny130 := Aside0.mk hy130
                  clear hy130
                  by_cases c10 : t129 = 2
                  · rw [if_pos c10] at H
                    have c10b0 : (t129 == 2) = true := beq_iff_eq.mpr c10
                    have c10b1 : (t129 != 2) = false := bne_eq_false_iff_eq.mpr c10
                    clear c10
                    obtain rfl := Option.some.inj H
                    go_wp2_with (first | ((with_reducible refine gate_callee (f := 8) rfl ?_); refine goesL_ (some 9) rfl rfl Tryd.func8 (by kernel_rfl) rfl #[.string (a0.extract (x4_1 : Int).toNat a0.size)] rfl (by (try simp only [List.map_toArray, List.map_cons, List.map_nil]); first | done | rfl | (simp only [List.length_drop, List.length_take]; rfl)) ?_; (with_reducible refine (catchpitref06_End.calls k1 (a0.extract (x4_1 : Int).toNat a0.size) t129 _ ?side1 A4.out).mono ?_); (case side1 => first | exact hG | exact TabOk.drewN hG _ | exact TabOk.drewN (TabOk.drewN hG _) _ | exact TabOk.below hG (by repeat (first | (with_reducible first | exact HB.out | apply below_alloc | apply pw_below_drewN | apply below_drew1) | exact HB.out))); rintro e w' ⟨rfl, ⟨nd, rfl⟩⟩; refine ⟨_, rfl, ?_⟩) | ((with_reducible refine gate_builtin (b := .append) (xs := #[.tmp 13, .tmp 23]) rfl ?_); at_builtin; refine Kd.R_append k29 (w0 := w) w.heap.size rfl (.tmp 13) (.tmp 23) 23 29 (.agg #[(.int .i64 0), (.string ⟨#[]⟩)]) 24 rfl Tryd.underlying23 info29 rfl (by decide) (by omega) u3 x3_1 (⟨x4_1, a0.extract (x4_1 : Int).toNat ((wrap64 ((wrap64 (x4_1 + t129)) - 2)) : Int).toNat⟩ : S29) [.int .i64 x4_1, .string (a0.extract (x4_1 : Int).toNat ((wrap64 ((wrap64 (x4_1 + t129)) - 2)) : Int).toNat)] (fun _ => True) (fun _ => False) rfl rfl ?aP (fun _ hk => hk.elim) ?aF ?aO ?aB ?aS ?aL ?_; (case aP => exact k29_mkM _ _ _ (⟨x4_1, a0.extract (x4_1 : Int).toNat ((wrap64 ((wrap64 (x4_1 + t129)) - 2)) : Int).toNat⟩ : S29)); (case aB => exact (by repeat (first | (with_reducible first | exact HB.out | apply below_alloc | apply pw_below_drewN | apply below_drew1) | exact HB.out))); (case aF => exact (fun _ _ => trivial)); (case aO => exact (by (with_reducible repeat (first | apply Kd.R_alloc | apply Kd.R_drewN | apply Kd.R_drew)); exact HO_3.out)); (case aS => exact (below_size (by repeat (first | (with_reducible first | exact HB.out | apply below_alloc | apply pw_below_drewN | apply below_drew1) | exact HB.out)))); (case aL => have := LMc9.out; omega); intro v131 w11 ho hb hg hat; rw [← Ny130.out] at ho; have n0_ := Aside0.mk (hb); have n1_ := Aside0.mk (ho); clear HB; clear HO_3; have HB := n0_; have HO132 := n1_; clear n0_ n1_; clear ho hb hg hat))
                    go_ret
                    exact ⟨_, by first | rfl | (simp [errW_none, errW_some] <;> rfl) | (simp [*, errW_none, errW_some] <;> rfl), by (with_reducible repeat (first | apply Kd.R_alloc | apply Kd.R_drewN | apply Kd.R_drew)); exact HO132.out, by repeat (first | (with_reducible first | exact HB.out | apply below_alloc | apply pw_below_drewN | apply below_drew1) | exact HB.out)⟩
                  · rw [if_neg c10] at H
                    have c10b0 : (t129 == 2) = false := beq_eq_false_iff_ne.mpr c10
                    have c10b1 : (t129 != 2) = true := bne_iff_ne.mpr c10
                    have H' := Aside0.mk H
                    clear H
                    go_wp2_with (first | ((with_reducible refine gate_callee (f := 8) rfl ?_); refine goesL_ (some 9) rfl rfl Tryd.func8 (by kernel_rfl) rfl #[.string (a0.extract (x4_1 : Int).toNat a0.size)] rfl (by (try simp only [List.map_toArray, List.map_cons, List.map_nil]); first | done | rfl | (simp only [List.length_drop, List.length_take]; rfl)) ?_; (with_reducible refine (catchpitref06_End.calls k1 (a0.extract (x4_1 : Int).toNat a0.size) t129 _ ?side1 A4.out).mono ?_); (case side1 => first | exact hG | exact TabOk.drewN hG _ | exact TabOk.drewN (TabOk.drewN hG _) _ | exact TabOk.below hG (by repeat (first | (with_reducible first | exact HB.out | apply below_alloc | apply pw_below_drewN | apply below_drew1) | exact HB.out))); rintro e w' ⟨rfl, ⟨nd, rfl⟩⟩; refine ⟨_, rfl, ?_⟩) | ((with_reducible refine gate_builtin (b := .append) (xs := #[.tmp 13, .tmp 23]) rfl ?_); at_builtin; refine Kd.R_append k29 (w0 := w) w.heap.size rfl (.tmp 13) (.tmp 23) 23 29 (.agg #[(.int .i64 0), (.string ⟨#[]⟩)]) 24 rfl Tryd.underlying23 info29 rfl (by decide) (by omega) u3 x3_1 (⟨x4_1, a0.extract (x4_1 : Int).toNat ((wrap64 ((wrap64 (x4_1 + t129)) - 2)) : Int).toNat⟩ : S29) [.int .i64 x4_1, .string (a0.extract (x4_1 : Int).toNat ((wrap64 ((wrap64 (x4_1 + t129)) - 2)) : Int).toNat)] (fun _ => True) (fun _ => False) rfl rfl ?aP (fun _ hk => hk.elim) ?aF ?aO ?aB ?aS ?aL ?_; (case aP => exact k29_mkM _ _ _ (⟨x4_1, a0.extract (x4_1 : Int).toNat ((wrap64 ((wrap64 (x4_1 + t129)) - 2)) : Int).toNat⟩ : S29)); (case aB => exact (by repeat (first | (with_reducible first | exact HB.out | apply below_alloc | apply pw_below_drewN | apply below_drew1) | exact HB.out))); (case aF => exact (fun _ _ => trivial)); (case aO => exact (by (with_reducible repeat (first | apply Kd.R_alloc | apply Kd.R_drewN | apply Kd.R_drew)); exact HO_3.out)); (case aS => exact (below_size (by repeat (first | (with_reducible first | exact HB.out | apply below_alloc | apply pw_below_drewN | apply below_drew1) | exact HB.out)))); (case aL => have := LMc9.out; omega); intro v131 w12 ho hb hg hat; rw [← Ny130.out] at ho; have n0_ := Aside0.mk (hb); have n1_ := Aside0.mk (ho); clear HB; clear HO_3; have HB := n0_; have HO132 := n1_; clear n0_ n1_; clear ho hb hg hat))
                    go_roundg k1
                    case measure => have := HK1.out; omega
                    case rel => exact ⟨(y130), (wrap64 (x4_1 + t129)), (by first | rfl | (simp; done) | (simp [*]; done)), H', ⟨by have := HK1.out; omega⟩, ⟨by (with_reducible repeat (first | apply Kd.R_alloc | apply Kd.R_drewN | apply Kd.R_drew)); exact HO132.out⟩, ⟨by repeat (first | (with_reducible first | exact HB.out | apply below_alloc | apply pw_below_drewN | apply below_drew1) | exact HB.out)⟩⟩
                · rw [if_neg c9] at H
                  exact absurd H (by simp)
              · rw [if_neg c8] at H
                exact absurd H (by simp)
            · rw [if_neg c7] at H
              exact absurd H (by simp)
        · rw [if_neg c3] at H
          exact absurd H (by simp)
      · rw [if_neg c2] at H
        exact absurd H (by simp)
end Go.Proofs.YtgnbkegdokekpaaDoor.Pr
end
section
namespace Go.Proofs.YtgnbkegdokekpaaDoor.Pr
open Go.RowKit Go.Proofs.YtgnbkegdokekpaaDoorH Go.Proofs.YtgnbkegdokekpaaDoorW.PrintWords Go.Proofs.YtgnbkegdokekpaaDoorW.PrintLast Go.Proofs.YtgnbkegdokekpaaDoorW.PrintMore
attribute [local go_sem] max2_int min2_int max_two min_two max_three min_three max_four min_four   -- for this text's walks alone
set_option linter.unusedVariables false
set_option linter.unusedSimpArgs false
def catchpitlaw06_wakes.f  : Option (Bool) := (block_Scan.f (⟨#[97, 58, 32, 49, 13, 10, 13, 10, 120]⟩ : ByteArray)).bind fun bt119 => ((block_Scan.f (⟨#[97, 32, 98]⟩ : ByteArray)).bind fun bt124 => (if (bt119.1.length : Int) = 1 then (if bt119.2.1 = 8 then (if bt119.2.2 = 0 then (if bt124.2.1 = 1 then (some (bt124.2.2 == 2)) else (some false)) else (some false)) else (some false)) else (some false)))
set_option maxHeartbeats 8000000 in
set_option maxRecDepth 100000 in
theorem catchpitlaw06_wakes.calls  (r : Bool) (w : World) (hG : TabOk w) (h : catchpitlaw06_wakes.f  = some r) :
    Calls Tryd.prog 4 #[] w fun e w' => e = .returned (.bool r) ∧ Below w.heap.size w w' := by
  have HB := Aside0.mk (Below.refl w.heap.size w)
  have H : ((block_Scan.f (⟨#[97, 58, 32, 49, 13, 10, 13, 10, 120]⟩ : ByteArray)).bind fun bt119 => ((block_Scan.f (⟨#[97, 32, 98]⟩ : ByteArray)).bind fun bt124 => (if (bt119.1.length : Int) = 1 then (if bt119.2.1 = 8 then (if bt119.2.2 = 0 then (if bt124.2.1 = 1 then (some (bt124.2.2 == 2)) else (some false)) else (some false)) else (some false)) else (some false)))) = some r := h
  clear h
  replace H := Option.bind_eq_some_iff.mp H
  obtain ⟨⟨t119, t120, t121⟩, A10, H⟩ := H
  replace H : ((block_Scan.f (⟨#[97, 32, 98]⟩ : ByteArray)).bind fun bt124 => (if (t119.length : Int) = 1 then (if t120 = 8 then (if t121 = 0 then (if bt124.2.1 = 1 then (some (bt124.2.2 == 2)) else (some false)) else (some false)) else (some false)) else (some false))) = some r := H
  have A1 := Aside0.mk A10
  clear A10
  replace H := Option.bind_eq_some_iff.mp H
  obtain ⟨⟨t124, t125, t126⟩, A20, H⟩ := H
  replace H : (if (t119.length : Int) = 1 then (if t120 = 8 then (if t121 = 0 then (if t125 = 1 then (some (t126 == 2)) else (some false)) else (some false)) else (some false)) else (some false)) = some r := H
  have A2 := Aside0.mk A20
  clear A20
  by_cases c3 : (t119.length : Int) = 1
  · rw [if_pos c3] at H
    have c3b0 : ((t119.length : Int) == 1) = true := beq_iff_eq.mpr c3
    have c3b1 : ((t119.length : Int) != 1) = false := bne_eq_false_iff_eq.mpr c3
    clear c3
    by_cases c4 : t120 = 8
    · rw [if_pos c4] at H
      have c4b0 : (t120 == 8) = true := beq_iff_eq.mpr c4
      have c4b1 : (t120 != 8) = false := bne_eq_false_iff_eq.mpr c4
      clear c4
      by_cases c5 : t121 = 0
      · rw [if_pos c5] at H
        have c5b0 : (t121 == 0) = true := beq_iff_eq.mpr c5
        have c5b1 : (t121 != 0) = false := bne_eq_false_iff_eq.mpr c5
        clear c5
        by_cases c6 : t125 = 1
        · rw [if_pos c6] at H
          have c6b0 : (t125 == 1) = true := beq_iff_eq.mpr c6
          have c6b1 : (t125 != 1) = false := bne_eq_false_iff_eq.mpr c6
          clear c6
          obtain rfl := Option.some.inj H
          go_enter Tryd.func4, Tryd.ntmps4
          go_wp2_with (first | ((with_reducible refine gate_callee (f := 7) rfl ?_); refine goesL_ (some 8) rfl rfl Tryd.func7 (by kernel_rfl) rfl #[.string (⟨#[97, 58, 32, 49, 13, 10, 13, 10, 120]⟩ : ByteArray)] rfl (by (try simp only [List.map_toArray, List.map_cons, List.map_nil]); first | done | rfl | (simp only [List.length_drop, List.length_take]; rfl)) ?_; (with_reducible refine (block_Scan.calls (⟨#[97, 58, 32, 49, 13, 10, 13, 10, 120]⟩ : ByteArray) t119 t120 t121 _ ?side1 A1.out).mono ?_); (case side1 => first | exact hG | exact TabOk.drewN hG _ | exact TabOk.drewN (TabOk.drewN hG _) _ | exact TabOk.below hG (by repeat (first | (with_reducible first | exact HB.out | apply below_alloc | apply pw_below_drewN | apply below_drew1) | exact HB.out))); rintro e w7 ⟨v122, rfl, ho0, hb⟩; refine ⟨_, rfl, ?_⟩; have n0_ := Aside0.mk (Kd.R_lower ho0 (below_size (by repeat (first | (with_reducible first | exact HB.out | apply below_alloc | apply pw_below_drewN | apply below_drew1) | exact HB.out)))); have n1_ := Aside0.mk (below_step (by repeat (first | (with_reducible first | exact HB.out | apply below_alloc | apply pw_below_drewN | apply below_drew1) | exact HB.out)) hb); clear HB; have HO123 := n0_; have HB := n1_; clear n0_ n1_; (try clear hb); (try clear hb2); (try clear hk); (try clear hi); (try clear ho0)) | ((with_reducible refine gate_callee (f := 7) rfl ?_); refine goesL_ (some 13) rfl rfl Tryd.func7 (by kernel_rfl) rfl #[.string (⟨#[97, 32, 98]⟩ : ByteArray)] rfl (by (try simp only [List.map_toArray, List.map_cons, List.map_nil]); first | done | rfl | (simp only [List.length_drop, List.length_take]; rfl)) ?_; (with_reducible refine (block_Scan.calls (⟨#[97, 32, 98]⟩ : ByteArray) t124 t125 t126 _ ?side1 A2.out).mono ?_); (case side1 => first | exact hG | exact TabOk.drewN hG _ | exact TabOk.drewN (TabOk.drewN hG _) _ | exact TabOk.below hG (by repeat (first | (with_reducible first | exact HB.out | apply below_alloc | apply pw_below_drewN | apply below_drew1) | exact HB.out))); rintro e w8 ⟨v127, rfl, ho0, hb⟩; refine ⟨_, rfl, ?_⟩; have n0_ := Aside0.mk (Kd.R_elder' (by (with_reducible repeat (first | apply Kd.R_alloc | apply Kd.R_drewN | apply Kd.R_drew)); exact HO123.out) (Kd.R_base ho0) hb); have n1_ := Aside0.mk (Kd.R_lower (Kd.R_new' ho0 (Kd.R_lt (by (with_reducible repeat (first | apply Kd.R_alloc | apply Kd.R_drewN | apply Kd.R_drew)); exact HO123.out))) (below_size (by repeat (first | (with_reducible first | exact HB.out | apply below_alloc | apply pw_below_drewN | apply below_drew1) | exact HB.out)))); have n2_ := Aside0.mk (below_step (by repeat (first | (with_reducible first | exact HB.out | apply below_alloc | apply pw_below_drewN | apply below_drew1) | exact HB.out)) hb); clear HO123; clear HB; have HO123 := n0_; have HO128 := n1_; have HB := n2_; clear n0_ n1_ n2_; (try clear hb); (try clear hb2); (try clear hk); (try clear hi); (try clear ho0); obtain ⟨Ao9, co9, eo9⟩ := Kd.R_slice HO123.out; subst eo9))
          go_ret
          exact ⟨by first | rfl | (simp [errW_none, errW_some] <;> rfl) | (simp [*, errW_none, errW_some] <;> rfl), by repeat (first | (with_reducible first | exact HB.out | apply below_alloc | apply pw_below_drewN | apply below_drew1) | exact HB.out)⟩
        · rw [if_neg c6] at H
          have c6b0 : (t125 == 1) = false := beq_eq_false_iff_ne.mpr c6
          have c6b1 : (t125 != 1) = true := bne_iff_ne.mpr c6
          obtain rfl := Option.some.inj H
          go_enter Tryd.func4, Tryd.ntmps4
          go_wp2_with (first | ((with_reducible refine gate_callee (f := 7) rfl ?_); refine goesL_ (some 8) rfl rfl Tryd.func7 (by kernel_rfl) rfl #[.string (⟨#[97, 58, 32, 49, 13, 10, 13, 10, 120]⟩ : ByteArray)] rfl (by (try simp only [List.map_toArray, List.map_cons, List.map_nil]); first | done | rfl | (simp only [List.length_drop, List.length_take]; rfl)) ?_; (with_reducible refine (block_Scan.calls (⟨#[97, 58, 32, 49, 13, 10, 13, 10, 120]⟩ : ByteArray) t119 t120 t121 _ ?side1 A1.out).mono ?_); (case side1 => first | exact hG | exact TabOk.drewN hG _ | exact TabOk.drewN (TabOk.drewN hG _) _ | exact TabOk.below hG (by repeat (first | (with_reducible first | exact HB.out | apply below_alloc | apply pw_below_drewN | apply below_drew1) | exact HB.out))); rintro e w10 ⟨v122, rfl, ho0, hb⟩; refine ⟨_, rfl, ?_⟩; have n0_ := Aside0.mk (Kd.R_lower ho0 (below_size (by repeat (first | (with_reducible first | exact HB.out | apply below_alloc | apply pw_below_drewN | apply below_drew1) | exact HB.out)))); have n1_ := Aside0.mk (below_step (by repeat (first | (with_reducible first | exact HB.out | apply below_alloc | apply pw_below_drewN | apply below_drew1) | exact HB.out)) hb); clear HB; have HO123 := n0_; have HB := n1_; clear n0_ n1_; (try clear hb); (try clear hb2); (try clear hk); (try clear hi); (try clear ho0)) | ((with_reducible refine gate_callee (f := 7) rfl ?_); refine goesL_ (some 13) rfl rfl Tryd.func7 (by kernel_rfl) rfl #[.string (⟨#[97, 32, 98]⟩ : ByteArray)] rfl (by (try simp only [List.map_toArray, List.map_cons, List.map_nil]); first | done | rfl | (simp only [List.length_drop, List.length_take]; rfl)) ?_; (with_reducible refine (block_Scan.calls (⟨#[97, 32, 98]⟩ : ByteArray) t124 t125 t126 _ ?side1 A2.out).mono ?_); (case side1 => first | exact hG | exact TabOk.drewN hG _ | exact TabOk.drewN (TabOk.drewN hG _) _ | exact TabOk.below hG (by repeat (first | (with_reducible first | exact HB.out | apply below_alloc | apply pw_below_drewN | apply below_drew1) | exact HB.out))); rintro e w11 ⟨v127, rfl, ho0, hb⟩; refine ⟨_, rfl, ?_⟩; have n0_ := Aside0.mk (Kd.R_elder' (by (with_reducible repeat (first | apply Kd.R_alloc | apply Kd.R_drewN | apply Kd.R_drew)); exact HO123.out) (Kd.R_base ho0) hb); have n1_ := Aside0.mk (Kd.R_lower (Kd.R_new' ho0 (Kd.R_lt (by (with_reducible repeat (first | apply Kd.R_alloc | apply Kd.R_drewN | apply Kd.R_drew)); exact HO123.out))) (below_size (by repeat (first | (with_reducible first | exact HB.out | apply below_alloc | apply pw_below_drewN | apply below_drew1) | exact HB.out)))); have n2_ := Aside0.mk (below_step (by repeat (first | (with_reducible first | exact HB.out | apply below_alloc | apply pw_below_drewN | apply below_drew1) | exact HB.out)) hb); clear HO123; clear HB; have HO123 := n0_; have HO128 := n1_; have HB := n2_; clear n0_ n1_ n2_; (try clear hb); (try clear hb2); (try clear hk); (try clear hi); (try clear ho0); obtain ⟨Ao12, co12, eo12⟩ := Kd.R_slice HO123.out; subst eo12))
          go_ret
          exact ⟨by first | rfl | (simp [errW_none, errW_some] <;> rfl) | (simp [*, errW_none, errW_some] <;> rfl), by repeat (first | (with_reducible first | exact HB.out | apply below_alloc | apply pw_below_drewN | apply below_drew1) | exact HB.out)⟩
      · rw [if_neg c5] at H
        have c5b0 : (t121 == 0) = false := beq_eq_false_iff_ne.mpr c5
        have c5b1 : (t121 != 0) = true := bne_iff_ne.mpr c5
        obtain rfl := Option.some.inj H
        go_enter Tryd.func4, Tryd.ntmps4
        go_wp2_with (first | ((with_reducible refine gate_callee (f := 7) rfl ?_); refine goesL_ (some 8) rfl rfl Tryd.func7 (by kernel_rfl) rfl #[.string (⟨#[97, 58, 32, 49, 13, 10, 13, 10, 120]⟩ : ByteArray)] rfl (by (try simp only [List.map_toArray, List.map_cons, List.map_nil]); first | done | rfl | (simp only [List.length_drop, List.length_take]; rfl)) ?_; (with_reducible refine (block_Scan.calls (⟨#[97, 58, 32, 49, 13, 10, 13, 10, 120]⟩ : ByteArray) t119 t120 t121 _ ?side1 A1.out).mono ?_); (case side1 => first | exact hG | exact TabOk.drewN hG _ | exact TabOk.drewN (TabOk.drewN hG _) _ | exact TabOk.below hG (by repeat (first | (with_reducible first | exact HB.out | apply below_alloc | apply pw_below_drewN | apply below_drew1) | exact HB.out))); rintro e w13 ⟨v122, rfl, ho0, hb⟩; refine ⟨_, rfl, ?_⟩; have n0_ := Aside0.mk (Kd.R_lower ho0 (below_size (by repeat (first | (with_reducible first | exact HB.out | apply below_alloc | apply pw_below_drewN | apply below_drew1) | exact HB.out)))); have n1_ := Aside0.mk (below_step (by repeat (first | (with_reducible first | exact HB.out | apply below_alloc | apply pw_below_drewN | apply below_drew1) | exact HB.out)) hb); clear HB; have HO123 := n0_; have HB := n1_; clear n0_ n1_; (try clear hb); (try clear hb2); (try clear hk); (try clear hi); (try clear ho0)) | ((with_reducible refine gate_callee (f := 7) rfl ?_); refine goesL_ (some 13) rfl rfl Tryd.func7 (by kernel_rfl) rfl #[.string (⟨#[97, 32, 98]⟩ : ByteArray)] rfl (by (try simp only [List.map_toArray, List.map_cons, List.map_nil]); first | done | rfl | (simp only [List.length_drop, List.length_take]; rfl)) ?_; (with_reducible refine (block_Scan.calls (⟨#[97, 32, 98]⟩ : ByteArray) t124 t125 t126 _ ?side1 A2.out).mono ?_); (case side1 => first | exact hG | exact TabOk.drewN hG _ | exact TabOk.drewN (TabOk.drewN hG _) _ | exact TabOk.below hG (by repeat (first | (with_reducible first | exact HB.out | apply below_alloc | apply pw_below_drewN | apply below_drew1) | exact HB.out))); rintro e w14 ⟨v127, rfl, ho0, hb⟩; refine ⟨_, rfl, ?_⟩; have n0_ := Aside0.mk (Kd.R_elder' (by (with_reducible repeat (first | apply Kd.R_alloc | apply Kd.R_drewN | apply Kd.R_drew)); exact HO123.out) (Kd.R_base ho0) hb); have n1_ := Aside0.mk (Kd.R_lower (Kd.R_new' ho0 (Kd.R_lt (by (with_reducible repeat (first | apply Kd.R_alloc | apply Kd.R_drewN | apply Kd.R_drew)); exact HO123.out))) (below_size (by repeat (first | (with_reducible first | exact HB.out | apply below_alloc | apply pw_below_drewN | apply below_drew1) | exact HB.out)))); have n2_ := Aside0.mk (below_step (by repeat (first | (with_reducible first | exact HB.out | apply below_alloc | apply pw_below_drewN | apply below_drew1) | exact HB.out)) hb); clear HO123; clear HB; have HO123 := n0_; have HO128 := n1_; have HB := n2_; clear n0_ n1_ n2_; (try clear hb); (try clear hb2); (try clear hk); (try clear hi); (try clear ho0); obtain ⟨Ao15, co15, eo15⟩ := Kd.R_slice HO123.out; subst eo15))
        go_ret
        exact ⟨by first | rfl | (simp [errW_none, errW_some] <;> rfl) | (simp [*, errW_none, errW_some] <;> rfl), by repeat (first | (with_reducible first | exact HB.out | apply below_alloc | apply pw_below_drewN | apply below_drew1) | exact HB.out)⟩
    · rw [if_neg c4] at H
      have c4b0 : (t120 == 8) = false := beq_eq_false_iff_ne.mpr c4
      have c4b1 : (t120 != 8) = true := bne_iff_ne.mpr c4
      obtain rfl := Option.some.inj H
      go_enter Tryd.func4, Tryd.ntmps4
      go_wp2_with (first | ((with_reducible refine gate_callee (f := 7) rfl ?_); refine goesL_ (some 8) rfl rfl Tryd.func7 (by kernel_rfl) rfl #[.string (⟨#[97, 58, 32, 49, 13, 10, 13, 10, 120]⟩ : ByteArray)] rfl (by (try simp only [List.map_toArray, List.map_cons, List.map_nil]); first | done | rfl | (simp only [List.length_drop, List.length_take]; rfl)) ?_; (with_reducible refine (block_Scan.calls (⟨#[97, 58, 32, 49, 13, 10, 13, 10, 120]⟩ : ByteArray) t119 t120 t121 _ ?side1 A1.out).mono ?_); (case side1 => first | exact hG | exact TabOk.drewN hG _ | exact TabOk.drewN (TabOk.drewN hG _) _ | exact TabOk.below hG (by repeat (first | (with_reducible first | exact HB.out | apply below_alloc | apply pw_below_drewN | apply below_drew1) | exact HB.out))); rintro e w16 ⟨v122, rfl, ho0, hb⟩; refine ⟨_, rfl, ?_⟩; have n0_ := Aside0.mk (Kd.R_lower ho0 (below_size (by repeat (first | (with_reducible first | exact HB.out | apply below_alloc | apply pw_below_drewN | apply below_drew1) | exact HB.out)))); have n1_ := Aside0.mk (below_step (by repeat (first | (with_reducible first | exact HB.out | apply below_alloc | apply pw_below_drewN | apply below_drew1) | exact HB.out)) hb); clear HB; have HO123 := n0_; have HB := n1_; clear n0_ n1_; (try clear hb); (try clear hb2); (try clear hk); (try clear hi); (try clear ho0)) | ((with_reducible refine gate_callee (f := 7) rfl ?_); refine goesL_ (some 13) rfl rfl Tryd.func7 (by kernel_rfl) rfl #[.string (⟨#[97, 32, 98]⟩ : ByteArray)] rfl (by (try simp only [List.map_toArray, List.map_cons, List.map_nil]); first | done | rfl | (simp only [List.length_drop, List.length_take]; rfl)) ?_; (with_reducible refine (block_Scan.calls (⟨#[97, 32, 98]⟩ : ByteArray) t124 t125 t126 _ ?side1 A2.out).mono ?_); (case side1 => first | exact hG | exact TabOk.drewN hG _ | exact TabOk.drewN (TabOk.drewN hG _) _ | exact TabOk.below hG (by repeat (first | (with_reducible first | exact HB.out | apply below_alloc | apply pw_below_drewN | apply below_drew1) | exact HB.out))); rintro e w17 ⟨v127, rfl, ho0, hb⟩; refine ⟨_, rfl, ?_⟩; have n0_ := Aside0.mk (Kd.R_elder' (by (with_reducible repeat (first | apply Kd.R_alloc | apply Kd.R_drewN | apply Kd.R_drew)); exact HO123.out) (Kd.R_base ho0) hb); have n1_ := Aside0.mk (Kd.R_lower (Kd.R_new' ho0 (Kd.R_lt (by (with_reducible repeat (first | apply Kd.R_alloc | apply Kd.R_drewN | apply Kd.R_drew)); exact HO123.out))) (below_size (by repeat (first | (with_reducible first | exact HB.out | apply below_alloc | apply pw_below_drewN | apply below_drew1) | exact HB.out)))); have n2_ := Aside0.mk (below_step (by repeat (first | (with_reducible first | exact HB.out | apply below_alloc | apply pw_below_drewN | apply below_drew1) | exact HB.out)) hb); clear HO123; clear HB; have HO123 := n0_; have HO128 := n1_; have HB := n2_; clear n0_ n1_ n2_; (try clear hb); (try clear hb2); (try clear hk); (try clear hi); (try clear ho0); obtain ⟨Ao18, co18, eo18⟩ := Kd.R_slice HO123.out; subst eo18))
      go_ret
      exact ⟨by first | rfl | (simp [errW_none, errW_some] <;> rfl) | (simp [*, errW_none, errW_some] <;> rfl), by repeat (first | (with_reducible first | exact HB.out | apply below_alloc | apply pw_below_drewN | apply below_drew1) | exact HB.out)⟩
  · rw [if_neg c3] at H
    have c3b0 : ((t119.length : Int) == 1) = false := beq_eq_false_iff_ne.mpr c3
    have c3b1 : ((t119.length : Int) != 1) = true := bne_iff_ne.mpr c3
    obtain rfl := Option.some.inj H
    go_enter Tryd.func4, Tryd.ntmps4
    go_wp2_with (first | ((with_reducible refine gate_callee (f := 7) rfl ?_); refine goesL_ (some 8) rfl rfl Tryd.func7 (by kernel_rfl) rfl #[.string (⟨#[97, 58, 32, 49, 13, 10, 13, 10, 120]⟩ : ByteArray)] rfl (by (try simp only [List.map_toArray, List.map_cons, List.map_nil]); first | done | rfl | (simp only [List.length_drop, List.length_take]; rfl)) ?_; (with_reducible refine (block_Scan.calls (⟨#[97, 58, 32, 49, 13, 10, 13, 10, 120]⟩ : ByteArray) t119 t120 t121 _ ?side1 A1.out).mono ?_); (case side1 => first | exact hG | exact TabOk.drewN hG _ | exact TabOk.drewN (TabOk.drewN hG _) _ | exact TabOk.below hG (by repeat (first | (with_reducible first | exact HB.out | apply below_alloc | apply pw_below_drewN | apply below_drew1) | exact HB.out))); rintro e w19 ⟨v122, rfl, ho0, hb⟩; refine ⟨_, rfl, ?_⟩; have n0_ := Aside0.mk (Kd.R_lower ho0 (below_size (by repeat (first | (with_reducible first | exact HB.out | apply below_alloc | apply pw_below_drewN | apply below_drew1) | exact HB.out)))); have n1_ := Aside0.mk (below_step (by repeat (first | (with_reducible first | exact HB.out | apply below_alloc | apply pw_below_drewN | apply below_drew1) | exact HB.out)) hb); clear HB; have HO123 := n0_; have HB := n1_; clear n0_ n1_; (try clear hb); (try clear hb2); (try clear hk); (try clear hi); (try clear ho0)) | ((with_reducible refine gate_callee (f := 7) rfl ?_); refine goesL_ (some 13) rfl rfl Tryd.func7 (by kernel_rfl) rfl #[.string (⟨#[97, 32, 98]⟩ : ByteArray)] rfl (by (try simp only [List.map_toArray, List.map_cons, List.map_nil]); first | done | rfl | (simp only [List.length_drop, List.length_take]; rfl)) ?_; (with_reducible refine (block_Scan.calls (⟨#[97, 32, 98]⟩ : ByteArray) t124 t125 t126 _ ?side1 A2.out).mono ?_); (case side1 => first | exact hG | exact TabOk.drewN hG _ | exact TabOk.drewN (TabOk.drewN hG _) _ | exact TabOk.below hG (by repeat (first | (with_reducible first | exact HB.out | apply below_alloc | apply pw_below_drewN | apply below_drew1) | exact HB.out))); rintro e w20 ⟨v127, rfl, ho0, hb⟩; refine ⟨_, rfl, ?_⟩; have n0_ := Aside0.mk (Kd.R_elder' (by (with_reducible repeat (first | apply Kd.R_alloc | apply Kd.R_drewN | apply Kd.R_drew)); exact HO123.out) (Kd.R_base ho0) hb); have n1_ := Aside0.mk (Kd.R_lower (Kd.R_new' ho0 (Kd.R_lt (by (with_reducible repeat (first | apply Kd.R_alloc | apply Kd.R_drewN | apply Kd.R_drew)); exact HO123.out))) (below_size (by repeat (first | (with_reducible first | exact HB.out | apply below_alloc | apply pw_below_drewN | apply below_drew1) | exact HB.out)))); have n2_ := Aside0.mk (below_step (by repeat (first | (with_reducible first | exact HB.out | apply below_alloc | apply pw_below_drewN | apply below_drew1) | exact HB.out)) hb); clear HO123; clear HB; have HO123 := n0_; have HO128 := n1_; have HB := n2_; clear n0_ n1_ n2_; (try clear hb); (try clear hb2); (try clear hk); (try clear hi); (try clear ho0); obtain ⟨Ao21, co21, eo21⟩ := Kd.R_slice HO123.out; subst eo21))
    go_ret
    exact ⟨by first | rfl | (simp [errW_none, errW_some] <;> rfl) | (simp [*, errW_none, errW_some] <;> rfl), by repeat (first | (with_reducible first | exact HB.out | apply below_alloc | apply pw_below_drewN | apply below_drew1) | exact HB.out)⟩
end Go.Proofs.YtgnbkegdokekpaaDoor.Pr
end
section
namespace Go.Proofs.YtgnbkegdokekpaaDoor.Pr
end Go.Proofs.YtgnbkegdokekpaaDoor.Pr
namespace Go.Proofs.YtgnbkegdokekpaaDoorH
open Go.RowKit Go.Proofs.YtgnbkegdokekpaaDoorW.PrintWords Go.Proofs.YtgnbkegdokekpaaDoorW.PrintLast Go.Proofs.YtgnbkegdokekpaaDoorW.PrintMore Go.Proofs.YtgnbkegdokekpaaDoor.Pr
def endL : Nat → List UInt8 → Int
  | _, [] => -1
  | i, c :: l => match l with
    | [] => -1
    | d :: _ => if c = 13 ∧ d = 10 then (i : Int) + 2 else endL (i + 1) l
theorem toNat_eq (c d : UInt8) : ((c.toNat : Int) = (d.toNat : Int)) ↔ c = d := by
  constructor
  · intro h
    exact UInt8.toNat_inj.1 (by omega)
  · rintro rfl; rfl
theorem ref06_End_l0 (s : ByteArray) (hs : s.size < 4611686018427387904) : ∀ (l : List UInt8) (i k : Nat), i ≤ s.size → s.data.toList.drop i = l → l.length < k → catchpitref06_End.l0 k s (i : Int) = some (endL i l)
  | [], i, k, h1, hd, hk => by
    obtain ⟨k, rfl⟩ : ∃ m, k = m + 1 := ⟨k - 1, by simp at hk; omega⟩
    have hl := congrArg List.length hd
    rw [List.length_drop, ← size_eq_length] at hl
    simp only [List.length_nil] at hl
    rw [catchpitref06_End.l0, if_neg (by unfold wrap64; omega)]
    rfl
  | [c], i, k, h1, hd, hk => by
    obtain ⟨k, rfl⟩ : ∃ m, k = m + 1 := ⟨k - 1, by simp at hk; omega⟩
    have hl := congrArg List.length hd
    rw [List.length_drop, ← size_eq_length] at hl
    simp only [List.length_cons, List.length_nil] at hl
    rw [catchpitref06_End.l0, if_neg (by unfold wrap64; omega)]
    rfl
  | c :: d :: l, i, k, h1, hd, hk => by
    obtain ⟨k, rfl⟩ : ∃ m, k = m + 1 := ⟨k - 1, by simp at hk; omega⟩
    have hl := congrArg List.length hd
    rw [List.length_drop, ← size_eq_length] at hl
    simp only [List.length_cons] at hl hk
    have hw : wrap64 ((i : Int) + 1) = ((i + 1 : Nat) : Int) := by unfold wrap64; omega
    have hw2 : wrap64 ((i : Int) + 2) = (i : Int) + 2 := by unfold wrap64; omega
    obtain ⟨c', hc', hb⟩ := drop_byte s i (by omega)
    obtain ⟨d', hd', hb2⟩ := drop_byte s (i + 1) (by omega)
    rw [hd] at hc'
    injection hc' with e1 e2
    rw [← e2] at hd'
    injection hd' with e3 e4
    subst e1 e3
    have ih := ref06_End_l0 s hs (d :: l) (i + 1) k (by omega) e2.symm (by simp only [List.length_cons]; omega)
    rw [catchpitref06_End.l0, hw, hw2, if_pos (by omega), if_pos (by omega), if_pos (by omega), hb, hb2, ih]
    by_cases h13 : c = 13
    · subst h13
      rw [if_pos (by decide), if_pos (by omega)]
      by_cases h10 : d = 10
      · subst h10
        rw [if_pos (by decide), endL, if_pos ⟨rfl, rfl⟩]
      · rw [if_neg (show ¬(d.toNat : Int) = 10 from fun e => h10 ((toNat_eq d 10).1 e)), endL, if_neg (fun e => h10 e.2)]
    · rw [if_neg (show ¬(c.toNat : Int) = 13 from fun e => h13 ((toNat_eq c 13).1 e)), endL, if_neg (fun e => h13 e.1)]
theorem ref06_End (s : ByteArray) (hs : s.size < 4611686018427387904) (k : Nat) (hk : s.size < k) : catchpitref06_End.f k s = some (endL 0 s.data.toList) :=
  ref06_End_l0 s hs s.data.toList 0 k (Nat.zero_le _) (List.drop_zero ..) (by rw [← size_eq_length]; exact hk)
theorem endL_index : ∀ (l : List UInt8) (i : Nat), endL i l = if Lib.index l [13, 10] = -1 then -1 else (i : Int) + Lib.index l [13, 10] + 2
  | [], i => by rw [endL, show Lib.index [] [13, 10] = -1 from rfl, if_pos rfl]
  | [c], i => by
    have e : Lib.index [c] [13, 10] = -1 := by
      rw [Lib.index, if_neg (by simp [List.isPrefixOf]), show Lib.index [] [13, 10] = -1 from rfl, if_pos (by decide)]
    rw [e, if_pos rfl, endL]
  | c :: d :: l, i => by
    have ih := endL_index (d :: l) (i + 1)
    have hge := Lib.index_ge (d :: l) [13, 10]
    have hix : Lib.index (c :: d :: l) [13, 10] = if c = 13 ∧ d = 10 then 0 else if Lib.index (d :: l) [13, 10] = -1 then -1 else Lib.index (d :: l) [13, 10] + 1 := by
      rw [Lib.index]
      by_cases h : c = 13 ∧ d = 10
      · obtain ⟨rfl, rfl⟩ := h
        rw [if_pos (by rfl), if_pos ⟨rfl, rfl⟩]
      · have hp : ¬ List.isPrefixOf [13, 10] (c :: d :: l) = true := by
          intro hp
          simp [List.isPrefixOf] at hp
          exact h ⟨hp.1.symm, hp.2.symm⟩
        rw [if_neg h, if_neg hp]
        by_cases hn : Lib.index (d :: l) [13, 10] = -1
        · rw [if_pos hn, if_pos (by rw [beq_iff_eq]; exact hn)]
        · rw [if_neg hn, if_neg (by rw [beq_iff_eq]; exact hn)]
    rw [endL, hix]
    by_cases h : c = 13 ∧ d = 10
    · rw [if_pos h, if_pos h, if_neg (by decide)]
      omega
    · rw [if_neg h, if_neg h, ih]
      by_cases hn : Lib.index (d :: l) [13, 10] = -1
      · rw [if_pos hn, if_pos hn, if_pos rfl]
      · rw [if_neg hn, if_neg hn, if_neg (by omega)]
        omega
theorem cut_of (l : List UInt8) : Lib.cut l [13, 10] = if Lib.index l [13, 10] = -1 then (l, [], false) else (l.take (Lib.index l [13, 10]).toNat, l.drop ((Lib.index l [13, 10]).toNat + 2), true) := by
  have hge := Lib.index_ge l [13, 10]
  unfold Lib.cut
  by_cases h : Lib.index l [13, 10] = -1
  · rw [if_pos h, if_neg (by omega)]
  · rw [if_neg h, if_pos (by omega)]
    rfl
theorem extract_bytes (s : ByteArray) (i n : Nat) : s.extract i (i + n) = ⟨((s.data.toList.drop i).take n).toArray⟩ := by
  apply ByteArray.ext
  apply Array.toList_inj.1
  rw [Lib.extract_data, show i + n - i = n by omega]
def ofLine (y : Nat × ByteArray) : S29 := ⟨(y.1 : Int), y.2⟩
theorem Lines_l0 (s : ByteArray) (hs : s.size ≤ 100000) : ∀ (n i k : Nat) (acc : List S29), i ≤ s.size → s.size - i < n → acc.length ≤ i → s.size + n + 1 ≤ k →
    catchpitref06_Lines.l0 k s acc (i : Int) = some (acc ++ (linesOf n s i).map ofLine)
  | 0, i, k, acc, h1, h2, h3, h4 => by omega
  | n + 1, i, k, acc, h1, h2, h3, h4 => by
    obtain ⟨k, rfl⟩ : ∃ m, k = m + 1 := ⟨k - 1, by omega⟩
    have hde : (s.extract i s.size).data.toList = s.data.toList.drop i := by
      rw [Lib.extract_data, List.take_of_length_le (by rw [List.length_drop, ← size_eq_length]; exact Nat.le_refl _)]
    have hend := ref06_End (s.extract i s.size) (by rw [ByteArray.size_extract]; omega) k (by rw [ByteArray.size_extract]; omega)
    rw [hde, endL_index] at hend
    have hroom := Lib.index_room (s.data.toList.drop i) [13, 10]
    have hge := Lib.index_ge (s.data.toList.drop i) [13, 10]
    rw [List.length_drop, ← size_eq_length] at hroom
    simp only [List.length_cons, List.length_nil] at hroom
    rw [catchpitref06_Lines.l0, if_pos (by omega), if_pos (by omega), Int.toNat_natCast, hend, Option.bind_some, linesOf_succ, cut_of]
    generalize hx : Lib.index (s.data.toList.drop i) [13, 10] = x at *
    by_cases hn : x = -1
    · rw [if_pos hn, if_pos hn, if_pos (by omega), if_neg (by simp)]
      simp
    · have h0 : 0 ≤ x := by omega
      have hr := hroom h0
      obtain ⟨m, rfl⟩ := Int.eq_ofNat_of_zero_le h0
      have hw1 : wrap64 ((i : Int) + ((0 : Nat) + (m : Int) + 2)) = ((i + m + 2 : Nat) : Int) := by unfold wrap64; omega
      have hw2 : wrap64 (((i + m + 2 : Nat) : Int) - 2) = ((i + m : Nat) : Int) := by unfold wrap64; omega
      rw [if_neg hn, if_neg hn, if_neg (by omega), hw1, hw2, if_pos (by omega), if_pos (by omega), if_pos (by omega), Option.bind_some, if_pos rfl]
      rw [Int.toNat_natCast, Int.toNat_natCast, extract_bytes]
      by_cases hm : m = 0
      · subst hm
        rw [if_pos (by omega)]
        simp [ofLine]
      · have hlen : ((s.data.toList.drop i).take m).length = m := by
          rw [List.length_take, List.length_drop, ← size_eq_length]; omega
        have hem : ((s.data.toList.drop i).take m).isEmpty = false := by
          rw [List.isEmpty_eq_false_iff]
          intro e
          rw [e] at hlen
          simp at hlen
          omega
        rw [if_neg (by omega), hem, if_neg (by decide), hlen, Lines_l0 s hs n (i + m + 2) k _ (by omega) (by omega) (by rw [List.length_append, List.length_singleton]; omega) (by omega)]
        simp [ofLine]
theorem ref06_Lines (s : ByteArray) (hs : s.size ≤ 100000) (k : Nat) (hk : 2 * s.size + 2 ≤ k) : catchpitref06_Lines.f k s = some ((linesOf (s.size + 1) s 0).map ofLine) := by
  have h := Lines_l0 s hs (s.size + 1) 0 k [] (Nat.zero_le _) (by omega) (by simp) (by omega)
  rw [List.nil_append] at h
  exact h
theorem block_Scan_eq (s : ByteArray) (hs : s.size < 4000000000) : block_Scan.f s = some (scanR s) := by
  unfold block_Scan.f
  rw [if_pos hs]
theorem wakes06 : catchpitlaw06_wakes.f = some true := by
  unfold catchpitlaw06_wakes.f
  rw [block_Scan_eq _ (by decide), Option.bind_some, block_Scan_eq _ (by decide), Option.bind_some]
  decide +kernel
end Go.Proofs.YtgnbkegdokekpaaDoorH
end
section
namespace Go.Proofs.YtgnbkegdokekpaaDoorH
open Go Go.RowKit Go.Proofs.YtgnbkegdokekpaaDoorW.PrintWords Go.Proofs.YtgnbkegdokekpaaDoorW.PrintLast Go.Proofs.YtgnbkegdokekpaaDoorW.PrintMore
theorem results_cell1 {fn : Func} {p : Tmp} {ty : TypeId} (h : fn.results = #[.cell p ty]) (tmps : Array Value) (P : Program) (w : World) (a : Addr) (v : Value)
    (hp : tmps.getD p undef = .pointer (some a)) (hA : (isAgg ty).run P w = .ok false w) (hc : w.cell? a = some v) : (results fn tmps).run P w = .ok v w := by
  rw [Array.getD_eq_getD_getElem?] at hp
  simp only [results, h]
  simp [Sem.run_bind, Result.andThen, hp, loadVar, hA, asAddr, go_sem, hc]
end Go.Proofs.YtgnbkegdokekpaaDoorH
end
section
namespace Go.Proofs.YtgnbkegdokekpaaDoor.Pr
end Go.Proofs.YtgnbkegdokekpaaDoor.Pr
namespace Go.Proofs.YtgnbkegdokekpaaDoor.Pk
open Go.RowKit Go.Shelf Go.Proofs.YtgnbkegdokekpaaDoorH Go.Proofs.YtgnbkegdokekpaaDoorW.PrintWords Go.Proofs.YtgnbkegdokekpaaDoorW.PrintLast Go.Proofs.YtgnbkegdokekpaaDoorW.PrintMore Go.Proofs.YtgnbkegdokekpaaDoor.Pr
attribute [local go_sem] Oper.semAt_some
def catchpitlaw06_BlockLines.f (s : ByteArray) (a0 : Int) : Option Bool := if (0 ≤ a0 ∧ a0 ≤ 255) ∧ s.size ≤ 140737488351232 then some true else none
abbrev Ln := S29
def zLn : Ln := ⟨0, ByteArray.empty⟩
theorem at_ln {w : World} {A : Option Addr} {n : Nat} {xs : List Ln} (h : Kd.C k29 w A n xs) (k : Nat) (h1 : k < n) :
    ∃ ad, A = some ad ∧ w.cell? (ad.add (k * 2)) = some (.int .i64 (xs.getD k zLn).f0) ∧ w.cell? ⟨(ad.add (k * 2)).block, (ad.add (k * 2)).off + 1, none⟩ = some (.string (xs.getD k zLn).f1) := by
  obtain ⟨ad, c, e, _, hK, hc0⟩ := Kd.C_get h zLn (k : Int) (by omega) (by omega)
  have hc : ∀ j u, c[j]? = some u → w.cell? (ad.add ((k : Int).toNat * 2 + j)) = some u := hc0
  obtain rfl := k29_open hK
  rw [Int.toNat_natCast] at hc
  exact ⟨ad, e, hc 0 _ rfl, by rw [← add_field _ _ 1 (by omega)]; exact hc 1 _ rfl⟩
abbrev lnW (s : ByteArray) : List (Nat × ByteArray) := linesOf (s.size + 1) s 0
set_option maxRecDepth 100000 in
set_option maxHeartbeats 4000000 in
theorem Lines_in (n : Nat) (hn : 7 ≤ n) (s : ByteArray) (hs : s.size ≤ 140737488351232) (a0 : Int) (h0 : 0 ≤ a0) (h255 : a0 ≤ 255) (w : World) (hG : TabOk w) :
    CallsIn Fence.wide n Tryd.prog 3 #[.string s, .int .u8 a0] w fun e w' => e = .returned (.bool true) ∧ Below w.heap.size w w' := by
  have h1 : 1 ≤ n := by omega
  have hw0 : IntKind.i64.wrap a0 = a0 := by
    unfold IntKind.wrap
    simp [IntKind.bits, IntKind.signed]
    omega
  have B0 := Aside0.mk (show Below w.heap.size w ((w.alloc (.cells #[.int .u8 a0] 5)).alloc (.cells #[.bool false] 4)) from below_alloc (below_alloc (Below.refl _ _) _) _)
  have HS0 := Aside0.mk (show Boxed ((w.alloc (.cells #[.int .u8 a0] 5)).alloc (.cells #[.bool false] 4)) w.heap.size 5 (.int .u8 a0) from (Boxed.new w _ _).alloc _)
  have HR0 := Aside0.mk (show Boxed ((w.alloc (.cells #[.int .u8 a0] 5)).alloc (.cells #[.bool false] 4)) (w.heap.size + 1) 4 (.bool false) by
    have h := Boxed.new (w.alloc (.cells #[.int .u8 a0] 5)) 4 (.bool false)
    rw [World.size_alloc] at h
    exact h)
  have HWK := Aside0.mk (catchpitlaw06_wakes.calls true _ (hG.below B0.out) wakes06)
  have hneq : ∀ (b : Nat) (W : World), (binOp .neq 26 (.func (.func 9) #[] #[.pointer (some ⟨b, 0, none⟩)]) .nilFunc).run Tryd.prog W = .ok (.bool true) W := fun _ _ => by kernel_rfl
  have HG := Aside0.mk hG
  clear hG
  refine callsIn_of_wp_marks Tryd.func3 rfl trivial ?_ rfl
  simp only [Tryd.ntmps3, List.size_toArray, List.length_cons, List.length_nil, Nat.reduceAdd, Nat.reduceSub, Array.replicate_succ, Array.replicate_zero, List.push_toArray, List.append_toArray, List.nil_append, List.cons_append]
  gi_wp2
  refine ⟨trivial, ?_⟩
  refine (callsIn_wide.2 HWK.out).mono ?_
  rintro e w1 ⟨rfl, b1⟩
  have B1 := Aside0.mk (B0.out.trans (b1.mono B0.out.size))
  have HS1 := Aside0.mk (show Boxed w1 w.heap.size 5 (.int .u8 a0) from (b1.block _ HS0.out.lt).trans HS0.out)
  have HR1 := Aside0.mk (show Boxed w1 (w.heap.size + 1) 4 (.bool false) from (b1.block _ HR0.out.lt).trans HR0.out)
  clear b1 HWK B0 HS0 HR0
  have cr := HR1.out.cell
  have fr := HR1.out.frozen
  by_cases hbig : 1000 < s.size
  · have hbig' : (1000 : Int) < (s.size : Int) := by omega
    have HX := Aside0.mk (HR1.out.set (.bool true))
    have HB := Aside0.mk (B1.out.setCell (p := ⟨w.heap.size + 1, 0, none⟩) (Nat.le_succ _) (.bool true))
    clear hbig
    gi_wp2
    exact ⟨_, results_cell1 rfl _ _ _ ⟨w.heap.size + 1, 0, none⟩ (.bool true) rfl (run_isAgg_plain Tryd.underlying4 rfl _) HX.out.cell, rfl, HB.out⟩
  · have hbig' : (s.size : Int) ≤ 1000 := by omega
    have hs1000 : s.size ≤ 1000 := by omega
    have HLN := Aside0.mk (catchpitref06_Lines.calls 5000 s _ w1 (HG.out.below B1.out) (ref06_Lines s (by omega) 5000 (by omega)))
    clear hbig
    gi_wp2
    refine ⟨trivial, ?_⟩
    refine (callsIn_wide.2 HLN.out).mono ?_
    rintro e w2 ⟨v2, rfl, hR2, b2⟩
    obtain ⟨A2, c2, rfl, hc2, hC2⟩ := Kd.R_reads hR2
    clear HLN hR2 cr fr
    have B2 := Aside0.mk (B1.out.trans (b2.mono B1.out.size))
    have HS2 := Aside0.mk (show Boxed w2 w.heap.size 5 (.int .u8 a0) from (b2.block _ HS1.out.lt).trans HS1.out)
    have HR2 := Aside0.mk (show Boxed w2 (w.heap.size + 1) 4 (.bool false) from (b2.block _ HR1.out.lt).trans HR1.out)
    have HC2 := Aside0.mk hC2
    obtain ⟨ln, hln⟩ : ∃ ln : List Ln, (linesOf (s.size + 1) s 0).map ofLine = ln := ⟨_, rfl⟩
    rw [hln] at HC2 hc2
    rw [hln]
    clear hC2 b2 HS1 HR1 B1
    gi_wp2
    have hsz2 : w.heap.size + 2 ≤ w2.heap.size := by have := HR2.out.lt; omega
    obtain ⟨w3, hw3⟩ : ∃ w3, (w2.alloc (.cells #[.slice A2 ln.length c2] 23)).alloc (.cells #[.int .i64 0] 3) = w3 := ⟨_, rfl⟩
    have B3 := Aside0.mk (show Below w2.heap.size w2 w3 by rw [← hw3]; exact ((Below.refl _ w2).alloc (Nat.le_refl _) _).alloc (by rw [World.size_alloc]; omega) _)
    have s3 : w3.heap.size = w2.heap.size + 2 := by rw [← hw3]; simp only [World.size_alloc]
    have HL3 := Aside0.mk (show Boxed w3 w2.heap.size 23 (.slice A2 ln.length c2) by rw [← hw3]; exact (Boxed.new w2 _ _).alloc _)
    have HN3 := Aside0.mk (show Boxed w3 (w2.heap.size + 1) 3 (.int .i64 0) by
      rw [← hw3]
      have h := Boxed.new (w2.alloc (.cells #[.slice A2 ln.length c2] 23)) 3 (.int .i64 0)
      rw [World.size_alloc] at h
      exact h)
    rw [hw3]
    have HLC := Aside0.mk (lines_calls s w3)
    refine ⟨trivial, ?_⟩
    refine (callsIn_wide.2 HLC.out).mono ?_
    rintro e w4 ⟨rfl, h4⟩
    have B4 := Aside0.mk (show Below w2.heap.size w2 w4 by rw [h4]; exact B3.out.alloc (by omega) _)
    have s4 : w4.heap.size = w2.heap.size + 3 := by rw [h4, World.size_alloc, s3]
    have HL4 := Aside0.mk (show Boxed w4 w2.heap.size 23 (.slice A2 ln.length c2) by rw [h4]; exact HL3.out.alloc _)
    have HN4 := Aside0.mk (show Boxed w4 (w2.heap.size + 1) 3 (.int .i64 0) by rw [h4]; exact HN3.out.alloc _)
    have HX4 := Aside0.mk (show Boxed w4 (w2.heap.size + 2) 9 (.string s) by
      rw [h4]
      have h := Boxed.new w3 9 (.string s)
      rw [s3] at h
      exact h)
    rw [s3]
    clear HLC h4 hw3 HL3 HN3 B3 s3 w3
    gi_wp2
    have HB4 := Aside0.mk (B2.out.trans (B4.out.mono B2.out.size))
    have HSQ := Aside0.mk (lines_own (n - 1) (by omega) (w2.heap.size + 2) s (by omega) w HG.out w4 (Lies.below HB4.out) HX4.out)
    have HLEN := Aside0.mk (show ln.length = (lnW s).length by rw [← hln, List.length_map])
    have HLN := Aside0.mk hln
    clear hln
    obtain ⟨s2, hs2⟩ : ∃ s2, w2.heap.size = s2 := ⟨_, rfl⟩
    rw [hs2] at B4 HL4 HN4 HX4 HSQ s4 hsz2 ⊢
    refine wpIn_range_own (F := Fence.wide) rfl rfl h1 (gf := 9) (lb := #[.pointer (some ⟨s2 + 2, 0, none⟩)]) rfl trivial (enters_of Tryd.func9 (by kernel_rfl) rfl) HSQ.out (Below.refl _ _) (fun r h => h.elim)
      (by rintro r (h | rfl) <;> omega) (fun _ => rfl) none (fun q e => by cases e)
      (fun pre g W => g = none ∧ (Below s2 w2 W ∧ (Boxed W s2 23 (.slice A2 ln.length c2) ∧ (Boxed W (s2 + 1) 3 (.int .i64 (pre.length : Int)) ∧ (pre.length : Int) ≤ a0))))
      (fun c pre g W => g = none ∧ (Below s2 w2 W ∧ (Boxed W s2 23 (.slice A2 ln.length c2) ∧ (Boxed W (s2 + 1) 3 (.int .i64 a0) ∧ (c = .exit 0 ∧ a0 ≤ ln.length)))))
      (Abd.and (Abd.pure (β := List (Nat × ByteArray)) (fun _ g => g = none)) (Abd.and (Abd.low (by omega) (Nat.le_of_eq hs2.symm) (fun r h => h.elim)) (Abd.and (Abd.block (fun _ => .cells #[.slice A2 ln.length c2] 23 (0, 0)) (by omega) (fun h => h)) (Abd.and (Abd.block (fun pre : List (Nat × ByteArray) => .cells #[.int .i64 (pre.length : Int)] 3 (0, 0)) (by omega) (fun h => h)) (Abd.pure (fun (pre : List (Nat × ByteArray)) _ => (pre.length : Int) ≤ a0))))))
      (fun c => Abd.and (Abd.pure (β := List (Nat × ByteArray)) (fun _ g => g = none)) (Abd.and (Abd.low (by omega) (Nat.le_of_eq hs2.symm) (fun r h => h.elim)) (Abd.and (Abd.block (fun _ => .cells #[.slice A2 ln.length c2] 23 (0, 0)) (by omega) (fun h => h)) (Abd.and (Abd.block (fun _ => .cells #[.int .i64 a0] 3 (0, 0)) (by omega) (fun h => h)) (Abd.pure (fun _ _ => c = .exit 0 ∧ a0 ≤ ln.length))))))
      ⟨rfl, B4.out, HL4.out, HN4.out, h0⟩
      (fun pre g W q h e => by rw [h.1] at e; cases e) (fun c pre g W q h e => by rw [h.1] at e; cases e)
      (fun x a' _ => a' = { tmps := #[.string s, .int .u8 a0, undef, .pointer (some ⟨w.heap.size, 0, none⟩), .pointer (some ⟨w.heap.size + 1, 0, none⟩), .pointer (some ⟨s2, 0, none⟩), .pointer (some ⟨s2 + 1, 0, none⟩), (.func (.func 9) #[] #[.pointer (some ⟨s2 + 2, 0, none⟩)]), .int .i64 ((x.1 : Nat) : Int), .string x.2, .bool true, .bool false, .string s, .int .i64 (s.size : Int), .bool (decide (1000 < (s.size : Int))), .string s, .slice A2 ln.length c2, .string s, (.func (.func 9) #[] #[.pointer (some ⟨s2 + 2, 0, none⟩)]), (.func (.func 9) #[] #[.pointer (some ⟨s2 + 2, 0, none⟩)]), .bool true, (.func (.func 9) #[] #[.pointer (some ⟨s2 + 2, 0, none⟩)]), .int .i64 ((x.1 : Nat) : Int), .string x.2, undef, undef, undef, undef, undef, undef, undef, undef, undef, undef, undef, undef, undef, undef, undef, undef, undef, undef, undef, undef, undef, undef, undef, undef, undef, undef, undef, undef, undef, undef, undef, undef, undef, undef, undef], defers := [] })
      (fun x a' _ _ _ _ _ h _ _ => h) ?assign ?body ?done ?stop
    case assign =>
      intro l pre x g W K hI hK
      dsimp only [encL]
      gi_wp2
      exact hK _ _ (Spares.refl _ _ _) hI rfl
    case body =>
      rintro l pre ⟨at', lx⟩ g a' W hW2 ⟨rfl, hBW, hl, hn, hle⟩ rfl hsp
      have hk : pre.length < ln.length := by
        have := hsp.length_le
        rw [List.length_append, List.length_singleton] at this
        rw [HLEN.out]
        exact this
      have hx : ln.getD pre.length zLn = ⟨(at' : Int), lx⟩ := by
        obtain ⟨r, hr⟩ := hsp
        rw [← HLN.out, show linesOf (s.size + 1) s 0 = pre ++ [(at', lx)] ++ r from hr.symm, List.map_append, List.map_append, List.append_assoc, List.getD_eq_getElem?_getD, List.getElem?_append_right (by simp)]
        simp [ofLine]
      obtain ⟨ad, eA, hc0, hc1⟩ := at_ln (Kd.C_below HC2.out (by rw [hs2]; exact hBW)) pre.length hk
      subst eA
      rw [hx] at hc0 hc1
      have hs := (hBW.block _ (by omega)).trans HS2.out
      have cs := (show Boxed W w.heap.size 5 (.int .u8 a0) from hs).cell
      have cn := hn.cell
      have fn' := hn.frozen
      have cl := hl.cell
      have hpl : pre.length + 1 = (pre ++ [((at', lx) : Nat × ByteArray)]).length := by rw [List.length_append, List.length_singleton]
      have HFIN := Aside0.mk (show Boxed (W.setCell ⟨s2 + 1, 0, none⟩ (.int .i64 ((pre ++ [((at', lx) : Nat × ByteArray)]).length : Int))) (s2 + 1) 3 (.int .i64 ((pre ++ [((at', lx) : Nat × ByteArray)]).length : Int)) ∧ Boxed (W.setCell ⟨s2 + 1, 0, none⟩ (.int .i64 ((pre ++ [((at', lx) : Nat × ByteArray)]).length : Int))) s2 23 (.slice (some ad) ln.length c2) ∧ Below s2 w2 (W.setCell ⟨s2 + 1, 0, none⟩ (.int .i64 ((pre ++ [((at', lx) : Nat × ByteArray)]).length : Int))) ∧
        Spares (fun k => s2 + 3 ≤ k ∨ (k < w.heap.size ∨ k = s2 + 2)) none none W (W.setCell ⟨s2 + 1, 0, none⟩ (.int .i64 ((pre ++ [((at', lx) : Nat × ByteArray)]).length : Int))) from
        ⟨hn.set _, hl.other (by omega) _, hBW.setCell (p := ⟨s2 + 1, 0, none⟩) (Nat.le_succ _) _, Spares.turned (grownBy_setCell' W (s2 + 1) _) (fun r e hk => by cases e; rcases hk with h | h | h <;> omega)⟩)
      have HST := Aside0.mk (show Below s2 w2 W ∧ Boxed W s2 23 (.slice (some ad) ln.length c2) ∧ Boxed W (s2 + 1) 3 (.int .i64 (pre.length : Int)) from ⟨hBW, hl, hn⟩)
      rw [← hpl] at HFIN
      have HPL := Aside0.mk hpl
      clear hl hn hBW hsp hx hpl hs
      generalize pre.length = k at *
      by_cases hge : a0 ≤ (k : Int)
      · obtain rfl : a0 = (k : Int) := by omega
        clear hc0 hc1
        gi_wp2
        exact ⟨none, Spares.refl _ _ _, rfl, HST.out.1, HST.out.2.1, HST.out.2.2, rfl, by omega⟩
      · have hlt : (k : Int) < a0 := by omega
        have hk6' : (k : Int) < (ln.length : Int) := by omega
        have hk0' : (0 : Int) ≤ (k : Int) := by omega
        have hne1 : (lx.toList != lx.toList) = false := by simp
        have hw2 : IntKind.i64.wrap ((k : Int) + 1) = ((k + 1 : Nat) : Int) := by
          unfold IntKind.wrap
          simp [IntKind.bits, IntKind.signed]
          omega
        clear hge
        gi_wp2
        rw [show ((k + 1 : Nat) : Int) = (k : Int) + 1 by omega] at HFIN
        refine ⟨none, HFIN.out.2.2.2, rfl, HFIN.out.2.2.1, HFIN.out.2.1, ?_, ?_⟩
        · rw [← HPL.out, show ((k + 1 : Nat) : Int) = (k : Int) + 1 by omega]
          exact HFIN.out.1
        · rw [← HPL.out]
          omega
    case done =>
      rintro D ys g W hD rfl ⟨rfl, hBW, hl, hn, hle⟩ hK
      rw [← HLEN.out] at hn hle
      have hmin : min a0 (ln.length : Int) = (ln.length : Int) := by omega
      have hs : Boxed W w.heap.size 5 (.int .u8 a0) := (hBW.block _ (by omega)).trans HS2.out
      have hr : Boxed W (w.heap.size + 1) 4 (.bool false) := (hBW.block _ (by omega)).trans HR2.out
      have cs := hs.cell
      have cn := hn.cell
      have cl := hl.cell
      have cr := hr.cell
      have fr := hr.frozen
      have hne : D ≠ w.heap.size + 1 := by omega
      have HK := Aside0.mk (show (W.setCell ⟨w.heap.size + 1, 0, none⟩ (.bool true)).heap[D]? = some (.deferred (some [])) from (Below.heap_setCell W _ _ D hne).trans hK)
      have hBW' : Below w.heap.size w W := B2.out.trans (hBW.mono (by omega))
      have HB := Aside0.mk (((hBW'.setCell (p := ⟨w.heap.size + 1, 0, none⟩) (Nat.le_succ _) (.bool true))).grown (grownBy_putObj' _ D (.deferred none)) (Nat.le_trans hBW'.size (grownBy_setCell' W (w.heap.size + 1) (.bool true)).size) (fun k e => by cases e; omega))
      have HX := Aside0.mk ((hr.set (.bool true)).kept (grownBy_putObj' _ D (.deferred none)) (fun h => hne (by cases h; rfl)))
      clear hK hs hn hl hr hBW hBW'
      gi_wp2
      refine ⟨by simp, .inl ⟨_, _, rfl, run_takeDeferred HK.out, ?_⟩⟩
      refine ⟨_, results_cell1 rfl _ _ _ ⟨w.heap.size + 1, 0, none⟩ (.bool true) rfl (run_isAgg_plain Tryd.underlying4 rfl _) HX.out.cell, rfl, HB.out⟩
    case stop =>
      rintro D c pre g W hD hsp ⟨rfl, hBW, hl, hn, rfl, h5⟩ hK
      have hmin : min a0 (ln.length : Int) = a0 := by omega
      have hee : (a0 == a0) = true := by simp
      clear hsp
      have hs : Boxed W w.heap.size 5 (.int .u8 a0) := (hBW.block _ (by omega)).trans HS2.out
      have hr : Boxed W (w.heap.size + 1) 4 (.bool false) := (hBW.block _ (by omega)).trans HR2.out
      have cs := hs.cell
      have cn := hn.cell
      have cl := hl.cell
      have cr := hr.cell
      have fr := hr.frozen
      have hne : D ≠ w.heap.size + 1 := by omega
      have HK := Aside0.mk (show (W.setCell ⟨w.heap.size + 1, 0, none⟩ (.bool true)).heap[D]? = some (.deferred (some [])) from (Below.heap_setCell W _ _ D hne).trans hK)
      have hBW' : Below w.heap.size w W := B2.out.trans (hBW.mono (by omega))
      have HB := Aside0.mk (((hBW'.setCell (p := ⟨w.heap.size + 1, 0, none⟩) (Nat.le_succ _) (.bool true))).grown (grownBy_putObj' _ D (.deferred none)) (Nat.le_trans hBW'.size (grownBy_setCell' W (w.heap.size + 1) (.bool true)).size) (fun k e => by cases e; omega))
      have HX := Aside0.mk ((hr.set (.bool true)).kept (grownBy_putObj' _ D (.deferred none)) (fun h => hne (by cases h; rfl)))
      clear hK hs hn hl hr hBW hBW'
      gi_wp2
      refine ⟨by simp, .inl ⟨_, _, rfl, run_takeDeferred HK.out, ?_⟩⟩
      refine ⟨_, results_cell1 rfl _ _ _ ⟨w.heap.size + 1, 0, none⟩ (.bool true) rfl (run_isAgg_plain Tryd.underlying4 rfl _) HX.out.cell, rfl, HB.out⟩
theorem catchpitlaw06_BlockLines.calls (s : ByteArray) (a0 : Int) (r : Bool) (w : World) (hG : TabOk w) (h : catchpitlaw06_BlockLines.f s a0 = some r) :
    Calls Tryd.prog 3 #[.string s, .int .u8 a0] w fun e w' => e = .returned (.bool r) ∧ Below w.heap.size w w' := by
  unfold catchpitlaw06_BlockLines.f at h
  split at h
  case isFalse => cases h
  rename_i hf
  injection h with h
  subst h
  exact callsIn_wide.1 (Lines_in 7 (Nat.le_refl _) s hf.2 a0 hf.1.1 hf.1.2 w hG)
end Go.Proofs.YtgnbkegdokekpaaDoor.Pk
end
section
namespace Go.Proofs.YtgnbkegdokekpaaDoor.Pure
open Go.RowKit Go.Proofs.YtgnbkegdokekpaaDoorH Go.Proofs.YtgnbkegdokekpaaDoor.Pk Go.Proofs.YtgnbkegdokekpaaDoorW.PrintWords Go.Proofs.YtgnbkegdokekpaaDoorW.PrintLast
theorem BlockLines (s : ByteArray) (a : Int) (hs : s.size ≤ 140737488351232) (ha : (Lit.int .u8 a).wf = true) : catchpitlaw06_BlockLines.f s a = some true := by
  refine if_pos ⟨?_, hs⟩
  have m2 : IntKind.u8.max = 255 := rfl
  have m1 : IntKind.u8.min = 0 := rfl
  simp [Lit.wf, m1, m2] at ha
  omega
end Go.Proofs.YtgnbkegdokekpaaDoor.Pure
end
section
namespace Go.Proofs.YtgnbkegdokekpaaDoorH
open Go.RowKit Go.ChangeShapes Go.WideShapes Go.ChangeAt
theorem two_of {α : Type} {l : List α} (h : l.length = 2) : ∃ a b, l = [a, b] := by
  match l, h with
  | [a, b], _ => exact ⟨a, b, rfl⟩
theorem three_of {α : Type} {l : List α} (h : l.length = 3) : ∃ a b c, l = [a, b, c] := by
  match l, h with
  | [a, b, c], _ => exact ⟨a, b, c, rfl⟩
theorem six_of {α : Type} {l : List α} (h : l.length = 6) : ∃ a b c d e f, l = [a, b, c, d, e, f] := by
  match l, h with
  | [a, b, c, d, e, f], _ => exact ⟨a, b, c, d, e, f, rfl⟩
theorem cells_of_one {W : World} {cs : List Value} {y : DataW Unit × List MemPlace} {m : Nat} {x0 : Int}
    (hd : DataW.trod (fun _ => ()) Tryd.prog W 0 (fun _ => true) false m 5 cs = some y) (hy : y.1 = .lit (.int .u8 x0)) : cs = [.int .u8 x0] := by
  obtain ⟨n, e1, e2, _⟩ := DataW.trod_int Tryd.underlying5 hd
  rw [e2] at hy
  simp only [DataW.lit.injEq, Lit.int.injEq, true_and] at hy
  rw [e1, hy]
theorem cells_of_pair {W : World} {cs : List Value} {y : DataW Unit × List MemPlace} {m : Nat} {x0 x1 : Int}
    (hd : DataW.trod (fun _ => ()) Tryd.prog W 0 (fun _ => true) false m 51 cs = some y) (hy : y.1 = .agg [.lit (.int .u8 x0), .lit (.int .u8 x1)]) :
    cs = [.int .u8 x0, .int .u8 x1] := by
  have c5 : Tryd.prog.cellsOf 5 = 1 := by kernel_rfl
  have c2 : Tryd.prog.cellsOf 51 = 2 := by kernel_rfl
  obtain ⟨xs, m, _, ex, hn, hl, hel⟩ := DataW.trod_array Tryd.underlying51 hd
  rw [c2] at hn
  obtain ⟨a, b, rfl⟩ := two_of hn
  obtain ⟨u, v, rfl⟩ := two_of hl
  · rw [ex] at hy
    simp only [List.map_cons, List.map_nil, DataW.agg.injEq, List.cons.injEq, and_true] at hy
    have h0 := hel 0 (by omega)
    have h1 := hel 1 (by omega)
    simp only [c5] at h0 h1
    have e0 := cells_of_one (y := u) (by simpa using h0) hy.1
    have e1 := cells_of_one (y := v) (by simpa using h1) hy.2
    simp at e0 e1
    rw [e0, e1]
theorem cells_of_pairs {W : World} {cs : List Value} {y : DataW Unit × List MemPlace} {m : Nat} {x0 x1 x2 x3 x4 x5 : Int}
    (hd : DataW.trod (fun _ => ()) Tryd.prog W 0 (fun _ => true) false m 52 cs = some y)
    (hy : y.1 = .agg [.agg [.lit (.int .u8 x0), .lit (.int .u8 x1)], .agg [.lit (.int .u8 x2), .lit (.int .u8 x3)], .agg [.lit (.int .u8 x4), .lit (.int .u8 x5)]]) :
    cs = [.int .u8 x0, .int .u8 x1, .int .u8 x2, .int .u8 x3, .int .u8 x4, .int .u8 x5] := by
  have c2 : Tryd.prog.cellsOf 51 = 2 := by kernel_rfl
  have c6 : Tryd.prog.cellsOf 52 = 6 := by kernel_rfl
  obtain ⟨xs, m, _, ex, hn, hl, hel⟩ := DataW.trod_array Tryd.underlying52 hd
  rw [c6] at hn
  obtain ⟨a, b, c, d, e, f, rfl⟩ := six_of hn
  obtain ⟨u, v, z, rfl⟩ := three_of hl
  · rw [ex] at hy
    simp only [List.map_cons, List.map_nil, DataW.agg.injEq, List.cons.injEq, and_true] at hy
    have h0 := hel 0 (by omega)
    have h1 := hel 1 (by omega)
    have h2 := hel 2 (by omega)
    simp only [c2] at h0 h1 h2
    have e0 := cells_of_pair (y := u) (by simpa using h0) hy.1
    have e1 := cells_of_pair (y := v) (by simpa using h1) hy.2.1
    have e2 := cells_of_pair (y := z) (by simpa using h2) hy.2.2
    simp at e0 e1 e2
    rw [e0.1, e0.2, e1.1, e1.2, e2.1, e2.2]
theorem tabOk_of_laid {W : World} {L : List (String × DataW Unit)} (h : laidMetH Tryd.prog L W) (hp : (L.all fun x => x.2.handleName?.isNone) = true)
    (hf : L.filter (fun x => x.1 == "catchpit/octet.ends") = [("catchpit/octet.ends", Go.Proofs.YtgnbkegdokekpaaDoor.Rows.laid_catchpit_octet_ends)]) (hs : W.ShapedOpen Tryd.prog) : TabOk W := by
  rw [MakeChecks.laidMetH_plain _ _ _ hp] at h
  have h2 := laidMet.filter (fun x => x.1 == "catchpit/octet.ends") h
  rw [hf] at h2
  obtain ⟨ps, ⟨g, t, cs, fuel, p, q, hg, ht, hv, hd, _, _⟩, _, _⟩ := h2
  obtain rfl := Option.some.inj ((show Tryd.prog.globalNamed "catchpit/octet.ends" = some 0 by kernel_rfl).symm.trans hg)
  obtain rfl := Option.some.inj ((show (Tryd.prog.globals[0]?).map (·.type) = some 52 by kernel_rfl).symm.trans ht)
  have e := cells_of_pairs hd rfl
  have hc := World.var?_cell hg hv
  have at_ : ∀ j, cs[j]? = cs.toList[j]? := fun j => (Array.getElem?_toList ..).symm
  rw [e] at at_
  exact ⟨(hc 0).trans (at_ 0), (hc 1).trans (at_ 1), (hc 2).trans (at_ 2), (hc 3).trans (at_ 3), (hc 4).trans (at_ 4), (hc 5).trans (at_ 5), MxOk.of_shaped hs⟩
end Go.Proofs.YtgnbkegdokekpaaDoorH
end
section
namespace Go.Proofs.YtgnbkegdokekpaaDoorH
open Go.RowKit Go.ChangeShapes Go.WideShapes Go.ChangeAt Go.Proofs.YtgnbkegdokekpaaDoorW.PrintWords
def Light {H : Type} (P : Program) (t : TypeId) (d : DataW H) : Prop := ∀ x ∈ DataW.weights P t d, x ≤ reachBytes
structure Opens (P : Program) {α : Type} (d : Kd α) (t : TypeId) (G : α → Prop) : Prop where
  cells : P.cellsOf t = d.sz
  open_ : ∀ {H : Type} {enc : TypeId × Value → H} {W : World} {fuel : Nat} {cs : List Value} {x : DataW H × List MemPlace},
    DataW.trod enc P W 0 (fun _ => true) true fuel t cs = some x → Light P t x.1 → ∃ y, d.K W y cs ∧ G y
theorem Opens.int {P : Program} {t : TypeId} {k : IntKind} (hu : P.underlying t = some (.int k)) (hc : P.cellsOf t = 1) : Opens P (Kd.int k) t (fun n => (Lit.int k n).wf = true) := by
  refine ⟨hc, fun h _ => ?_⟩
  obtain ⟨n, e1, e2, wf⟩ := DataW.trod_int hu h
  exact ⟨n, e1, wf⟩
theorem Opens.bool {P : Program} {t : TypeId} (hu : P.underlying t = some .bool) (hc : P.cellsOf t = 1) : Opens P Kd.bool t (fun _ => True) := by
  refine ⟨hc, fun {_ _ _ fuel cs _} h _ => ?_⟩
  cases fuel with
  | zero => simp [DataW.trod] at h
  | succ m =>
    unfold DataW.trod at h
    rw [hu] at h
    match cs, h with
    | [.bool b], _ => exact ⟨b, rfl, trivial⟩
theorem Opens.string {P : Program} {t : TypeId} (hu : P.underlying t = some .string) (hc : P.cellsOf t = 1) : Opens P Kd.string t (fun s => s.size ≤ 140737488351232) := by
  refine ⟨hc, fun h hl => ?_⟩
  obtain ⟨s, e1, e2, _⟩ := DataW.trod_string hu h
  refine ⟨s, e1, ?_⟩
  subst e2
  have := hl s.data.toList.length (by simp [DataW.weights])
  rw [data_length] at this
  exact this
theorem weightsAll_mem {H : Type} (P : Program) (e : TypeId) : ∀ (l : List (DataW H)) (d : DataW H), d ∈ l → ∀ x ∈ DataW.weights P e d, x ∈ DataW.weightsAll P e l
  | [], d, h, _, _ => by cases h
  | a :: l, d, h, x, hx => by
    rw [DataW.weightsAll]
    rcases List.mem_cons.1 h with rfl | h
    · exact List.mem_append_left _ hx
    · exact List.mem_append_right _ (weightsAll_mem P e l d h x hx)
theorem list_of {α : Type} {p : Nat → α → Prop} : ∀ n : Nat, (∀ i, i < n → ∃ y, p i y) → ∃ l : List α, l.length = n ∧ ∀ i y, l[i]? = some y → p i y
  | 0, _ => ⟨[], rfl, fun i y h => by simp at h⟩
  | n + 1, h => by
    obtain ⟨l, hl, hp⟩ := list_of n (fun i hi => h i (by omega))
    obtain ⟨y, hy⟩ := h n (by omega)
    refine ⟨l ++ [y], by simp [hl], fun i z hz => ?_⟩
    rcases Nat.lt_or_ge i n with hi | hi
    · rw [List.getElem?_append_left (by omega)] at hz
      exact hp i z hz
    · rw [List.getElem?_append_right (by omega), hl] at hz
      rcases Nat.eq_zero_or_pos (i - n) with h0 | h0
      · rw [h0] at hz
        obtain rfl : i = n := by omega
        obtain rfl : y = z := by simpa using hz
        exact hy
      · rw [List.getElem?_eq_none (by simp; omega)] at hz
        cases hz
theorem add_add (a : Addr) (i j : Nat) : (a.add i).add j = a.add (i + j) := by
  unfold Addr.add
  by_cases h1 : i = 0
  · subst h1; simp
  · by_cases h2 : j = 0
    · subst h2; simp [h1]
    · simp [h1, h2, Nat.add_assoc]
theorem cells_at {W : World} {base : Nat} {a : Addr} {n : Nat} {cs : List Value} (h : W.cells? base a n = some cs) : cs.length = n ∧ ∀ (i : Nat) u, cs[i]? = some u → W.cell? (a.add i) = some u := by
  obtain ⟨_, hn, hc⟩ := World.cells?_some h
  refine ⟨hn, fun i u hu => ?_⟩
  have hi : i < n := by
    rcases Nat.lt_or_ge i n with hi | hi
    · exact hi
    · rw [List.getElem?_eq_none (by omega)] at hu; cases hu
  rw [hc i hi, hu]
theorem Opens.slice {P : Program} {α : Type} {d : Kd α} {t e : TypeId} {G : α → Prop} (h : Opens P d e G) (hu : P.underlying t = some (.slice e)) (hc : P.cellsOf t = 1) {B : Nat} (hB : P.bytesOf e = B) :
    Opens P (Kd.slice e d) t (fun l => l.length * B ≤ 140737488351232 ∧ ∀ y ∈ l, G y) := by
  refine ⟨hc, fun {H enc W fuel cs x} hx hl => ?_⟩
  rcases Deep.open_slice hu hx with ⟨rfl, rfl⟩ | ⟨a, len, cap, m, n, D, Pl, rfl, _, hle, hm, hmm, rfl, hel⟩
  · exact ⟨[], ⟨none, 0, rfl, Nat.le_refl _, rfl, by simp, fun h => by simp at h⟩, by simp, fun y hy => by cases hy⟩
  · simp only [if_true] at hmm
    subst hmm
    have hw : (len + (m - len)) * B ≤ 140737488351232 := by
      have := hl ((len + (m - len)) * B) (by
        unfold DataW.weights
        simp only [hu, hB]
        simp)
      exact this
    have hget : ∀ i, i < len → ∃ y, (∃ c, c.length = d.sz ∧ d.K W y c ∧ ∀ j u, c[j]? = some u → W.cell? (a.add (i * d.sz + j)) = some u) ∧ G y := by
      intro i hi
      obtain ⟨cs', h1, h2⟩ := hel i (by omega)
      obtain ⟨y, hy, hg⟩ := h.open_ h2 (fun x hx => hl x (by
        unfold DataW.weights
        simp only [hu]
        refine List.mem_cons_of_mem _ (List.mem_append_left _ (weightsAll_mem P e _ (D i) ?_ x hx))
        exact List.mem_map.2 ⟨i, List.mem_range.2 hi, rfl⟩))
      obtain ⟨hn, hcell⟩ := cells_at h1
      refine ⟨y, ⟨cs', by rw [hn, h.cells], hy, fun j u hj => ?_⟩, hg⟩
      have := hcell j u hj
      rw [add_add, h.cells] at this
      exact this
    obtain ⟨l, hll, hat⟩ := list_of len hget
    refine ⟨l, ⟨some a, m, by rw [hll], by omega, rfl, by rw [hll]; unfold maxLen at hm; omega, fun _ => ⟨a, rfl, fun j p hj => (hat j p hj).1⟩⟩, ?_, fun y hy => ?_⟩
    · rw [hll]
      exact Nat.le_trans (Nat.mul_le_mul_right _ (by omega)) hw
    · obtain ⟨i, hi, rfl⟩ := List.mem_iff_getElem.1 hy
      exact (hat i _ (List.getElem?_eq_getElem hi)).2
theorem Opens.iso {P : Program} {α β : Type} {d : Kd α} {t : TypeId} {G : α → Prop} (h : Opens P d t G) (f : β → α) (g : α → β) (hfg : ∀ y, f (g y) = y) : Opens P (Kd.iso d f) t (fun x => G (f x)) := by
  refine ⟨h.cells, fun {H enc W fuel cs x} hx hl => ?_⟩
  obtain ⟨y, hk, hg⟩ := h.open_ hx hl
  exact ⟨g y, show d.K W (f (g y)) cs by rw [hfg]; exact hk, by rw [hfg]; exact hg⟩
end Go.Proofs.YtgnbkegdokekpaaDoorH
end
section
namespace Go.Proofs.YtgnbkegdokekpaaDoorH
open Go
variable {H : Type} {enc : TypeId × Value → H}
theorem returns_and_shaped {a : Assume} {C : Checked} {os : Os} {f : FuncId} {fn : Func} {s : ChangeSpec} {conds : List PathCond} {apart fresh handsOn again : Bool} {X : World → Array Value → Prop}
    (hX : ∀ (w w' : World) (args : Array Value), w.heap = w'.heap → X w args → X w' args)
    (own : ownKnob C.prog.godebug = none) (started : os.Started) (noInit : C.prog.inits.idxOf? f = none) (hfn : C.prog.funcs[f]? = some fn)
    (witness : ∃ (w : World) (tape : Tape) (i : Input), w.os = os ∧ (w.forCall tape i).Shaped C.prog ∧ i.vars = [] ∧ Input.okWide C.prog (w.forCall tape i) .any w.heap.size f i ∧
      ((s.pre enc C.prog fn conds apart (w.forCall tape i).memory i.args ∧ X (w.forCall tape i).memory i.args) ∧ sizedMet enc C.prog fn (OpenSpec.ofChange s) apart (w.forCall tape i).memory i.args) ∧ a.holds C.prog (lone (Frame.enter C.prog f i.args .normal) [] (w.forCall tape i)))
    (contract : ∀ (W : World) (base : Nat) (args : Array Value) (ds gs : List (DataW H)) (before : List MemPlace),
      (∀ (j : Nat) t v, fn.params[j]? = some t → args[j]? = some v → Value.okWide C.prog W .any base t v) →
      DataW.Whole enc C.prog fn.params.toList s.vars apart W args.toList ds gs before →
      conds.all (PathCond.test C.prog ⟨fn.params.toList, ds, s.plain.varTypes C.prog, gs⟩) = true →
      (DataW.weightsEach C.prog (fn.params.toList ++ s.plain.varTypes C.prog) (ds ++ gs)).all (· ≤ reachBytes) = true → X W args →
      W.ShapedOpen C.prog →
      a.holds C.prog (lone (Frame.enter C.prog f args .normal) [] W) →
      Calls C.prog f args W fun e W' => ∃ v, e = .returned v ∧ s.post enc C.prog fn apart fresh handsOn again W args v W') :
    ReturnsInHanded a C os f .any (fun w args => (s.pre enc C.prog fn conds apart w args ∧ X w args) ∧ sizedMet enc C.prog fn (OpenSpec.ofChange s) apart w args) (s.post enc C.prog fn apart fresh handsOn again) := by
  refine returnsInHanded_of_calls own started noInit witness ?_
  intro w tape i _ hsh _ hok hpre hholds
  obtain ⟨_, _, _, fn', hfn', _, _, _, _, hval⟩ := hok
  have e : fn' = fn := Option.some.inj (hfn'.symm.trans hfn)
  subst e
  obtain ⟨⟨⟨ds, gs, before, hw, hc⟩, hx⟩, hz⟩ := hpre
  have hw' := DataW.Whole.of_heap (w' := w.forCall tape i) (by rfl) hw
  refine (contract (w.forCall tape i) w.heap.size i.args ds gs before hval hw' hc (hz.weights hw) (hX _ _ _ (by rfl) hx) hsh hholds).mono fun e W' ⟨v, he, hp⟩ => ?_
  subst he
  exact ChangeSpec.post_blind hp
end Go.Proofs.YtgnbkegdokekpaaDoorH
end
