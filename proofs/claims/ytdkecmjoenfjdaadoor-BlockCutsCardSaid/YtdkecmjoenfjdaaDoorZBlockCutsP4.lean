import Derived.Test.YtdkecmjoenfjdaaDoorZBlockCutsP1
import Derived.Test.YtdkecmjoenfjdaaDoorZBlockCutsP3
import Derived.Test.YtdkecmjoenfjdaaDoorZBlockCutsP2
import Derived.Test.YtdkecmjoenfjdaaDoorRows
import Derived.LaidSub
import Derived.MakeChecks
import Derived.ProofKit
import Derived.OpenShut
import Derived.LaidMore
import Derived.Deep.Slices
import Derived.SizedLaws
import Derived.HandedShaped
import Derived.Handed
section
namespace Go.Proofs.YtdkecmjoenfjdaaDoor.Pr
open Go.RowKit Go.Proofs.YtdkecmjoenfjdaaDoorH Go.Proofs.YtdkecmjoenfjdaaDoorW.PrintWords Go.Proofs.YtdkecmjoenfjdaaDoorW.PrintLast Go.Proofs.YtdkecmjoenfjdaaDoorW.PrintMore
attribute [local go_sem] max2_int min2_int max_two min_two max_three min_three max_four min_four   -- for this text's walks alone
set_option linter.unusedVariables false
set_option linter.unusedSimpArgs false
def catchpitlaw06_BlockCuts.f (k : Nat) (l0 : List (S24)) (a1 : Int) : Option (Bool) := (catchpitlaw06_wakes.f).bind fun t348 => (if t348 = true then ((catchpitref05_Great.f k l0).bind fun t349 => (if t349 = true then (some true) else ((catchpitref06_Put.f k l0).bind fun bt350 => (if bt350.2 = true then (if (bt350.1.size : Int) = 0 then (none) else (if 0 ≤ (Int.tmod (wrap64 (a1)) (bt350.1.size : Int)) then (if (Int.tmod (wrap64 (a1)) (bt350.1.size : Int)) ≤ (bt350.1.size : Int) then ((block_Scan.f (bt350.1.extract 0 ((Int.tmod (wrap64 (a1)) (bt350.1.size : Int)) : Int).toNat)).bind fun bt352 => (if (bt352.1.length : Int) = 0 then (if bt352.2.1 = (Int.tmod (wrap64 (a1)) (bt350.1.size : Int)) then (some (bt352.2.2 == 4)) else (some false)) else (some false))) else (none)) else (none))) else (some true))))) else (some false))
theorem catchpitlaw06_BlockCuts.mono : ∀ a0 a1 k, LeO (catchpitlaw06_BlockCuts.f k a0 a1) (catchpitlaw06_BlockCuts.f (k + 1) a0 a1) := by
  intro a0 a1 k
  unfold catchpitlaw06_BlockCuts.f
  repeat' first
      | (with_reducible exact catchpitref05_Great.mono _ _)
      | (with_reducible exact catchpitref06_Put.mono _ _)
      | (with_reducible exact LeO.refl _)
      | (with_reducible exact LeO.none _)
      | (with_reducible refine LeO.ite ?_ ?_)
      | (with_reducible refine LeO.bind ?_ (fun _ => ?_))
      | exact catchpitref05_Great.mono _ _
      | exact catchpitref06_Put.mono _ _
      | exact LeO.none _
      | refine LeO.ite ?_ ?_
      | refine LeO.bind ?_ (fun _ => ?_)
set_option maxHeartbeats 8000000 in
set_option maxRecDepth 100000 in
theorem catchpitlaw06_BlockCuts.calls (k : Nat) (A0 : Option Addr) (c0 : Nat) (l0 : List (S24)) (a1 : Int) (r : Bool) (w : World) (hr0 : Kd.C k24 w A0 l0.length l0) (hc0 : l0.length ≤ c0) (hG : TabOk w) (h : catchpitlaw06_BlockCuts.f k l0 a1 = some r) :
    Calls Tryd.prog 9 #[.slice A0 l0.length c0, .int .u16 a1] w fun e w' => e = .returned (.bool r) ∧ Below w.heap.size w w' := by
  have HR0 := Aside0.mk hr0
  have HC0 := Aside0.mk hc0
  clear hr0 hc0
  have HB := Aside0.mk (Below.refl w.heap.size w)
  have H : ((catchpitlaw06_wakes.f).bind fun t348 => (if t348 = true then ((catchpitref05_Great.f k l0).bind fun t349 => (if t349 = true then (some true) else ((catchpitref06_Put.f k l0).bind fun bt350 => (if bt350.2 = true then (if (bt350.1.size : Int) = 0 then (none) else (if 0 ≤ (Int.tmod (wrap64 (a1)) (bt350.1.size : Int)) then (if (Int.tmod (wrap64 (a1)) (bt350.1.size : Int)) ≤ (bt350.1.size : Int) then ((block_Scan.f (bt350.1.extract 0 ((Int.tmod (wrap64 (a1)) (bt350.1.size : Int)) : Int).toNat)).bind fun bt352 => (if (bt352.1.length : Int) = 0 then (if bt352.2.1 = (Int.tmod (wrap64 (a1)) (bt350.1.size : Int)) then (some (bt352.2.2 == 4)) else (some false)) else (some false))) else (none)) else (none))) else (some true))))) else (some false))) = some r := h
  clear h
  replace H := Option.bind_eq_some_iff.mp H
  obtain ⟨t348, A30, H⟩ := H
  replace H : (if t348 = true then ((catchpitref05_Great.f k l0).bind fun t349 => (if t349 = true then (some true) else ((catchpitref06_Put.f k l0).bind fun bt350 => (if bt350.2 = true then (if (bt350.1.size : Int) = 0 then (none) else (if 0 ≤ (Int.tmod (wrap64 (a1)) (bt350.1.size : Int)) then (if (Int.tmod (wrap64 (a1)) (bt350.1.size : Int)) ≤ (bt350.1.size : Int) then ((block_Scan.f (bt350.1.extract 0 ((Int.tmod (wrap64 (a1)) (bt350.1.size : Int)) : Int).toNat)).bind fun bt352 => (if (bt352.1.length : Int) = 0 then (if bt352.2.1 = (Int.tmod (wrap64 (a1)) (bt350.1.size : Int)) then (some (bt352.2.2 == 4)) else (some false)) else (some false))) else (none)) else (none))) else (some true))))) else (some false)) = some r := H
  have A3 := Aside0.mk A30
  clear A30
  by_cases c4 : t348 = true
  · subst c4
    have H1 : ((catchpitref05_Great.f k l0).bind fun t349 => (if t349 = true then (some true) else ((catchpitref06_Put.f k l0).bind fun bt350 => (if bt350.2 = true then (if (bt350.1.size : Int) = 0 then (none) else (if 0 ≤ (Int.tmod (wrap64 (a1)) (bt350.1.size : Int)) then (if (Int.tmod (wrap64 (a1)) (bt350.1.size : Int)) ≤ (bt350.1.size : Int) then ((block_Scan.f (bt350.1.extract 0 ((Int.tmod (wrap64 (a1)) (bt350.1.size : Int)) : Int).toNat)).bind fun bt352 => (if (bt352.1.length : Int) = 0 then (if bt352.2.1 = (Int.tmod (wrap64 (a1)) (bt350.1.size : Int)) then (some (bt352.2.2 == 4)) else (some false)) else (some false))) else (none)) else (none))) else (some true))))) = some r := by rw [if_pos rfl] at H; exact H
    clear H
    have H := H1
    clear H1
    replace H := Option.bind_eq_some_iff.mp H
    obtain ⟨t349, A50, H⟩ := H
    replace H : (if t349 = true then (some true) else ((catchpitref06_Put.f k l0).bind fun bt350 => (if bt350.2 = true then (if (bt350.1.size : Int) = 0 then (none) else (if 0 ≤ (Int.tmod (wrap64 (a1)) (bt350.1.size : Int)) then (if (Int.tmod (wrap64 (a1)) (bt350.1.size : Int)) ≤ (bt350.1.size : Int) then ((block_Scan.f (bt350.1.extract 0 ((Int.tmod (wrap64 (a1)) (bt350.1.size : Int)) : Int).toNat)).bind fun bt352 => (if (bt352.1.length : Int) = 0 then (if bt352.2.1 = (Int.tmod (wrap64 (a1)) (bt350.1.size : Int)) then (some (bt352.2.2 == 4)) else (some false)) else (some false))) else (none)) else (none))) else (some true)))) = some r := H
    have A5 := Aside0.mk A50
    clear A50
    by_cases c6 : t349 = true
    · subst c6
      have H1 : (some true) = some r := by rw [if_pos rfl] at H; exact H
      clear H
      have H := H1
      clear H1
      obtain rfl := Option.some.inj H
      go_enter Tryd.func9, Tryd.ntmps9
      go_wp2_with (first | ((with_reducible refine gate_callee (f := 30) rfl ?_); refine goesL_ (some 11) rfl rfl Tryd.func30 (by kernel_rfl) rfl #[] rfl (by (try simp only [List.map_toArray, List.map_cons, List.map_nil]); first | done | rfl | (simp only [List.length_drop, List.length_take]; rfl)) ?_; (with_reducible refine (catchpitlaw06_wakes.calls  true _ ?side1 A3.out).mono ?_); (case side1 => first | exact hG | exact TabOk.drewN hG _ | exact TabOk.drewN (TabOk.drewN hG _) _ | exact TabOk.below hG (by repeat (first | (with_reducible first | exact HB.out | apply below_alloc | apply pw_below_drewN | apply below_drew1) | exact HB.out))); rintro e w7 ⟨rfl, hb⟩; refine ⟨_, rfl, ?_⟩; have n0_ := Aside0.mk (below_step (by repeat (first | (with_reducible first | exact HB.out | apply below_alloc | apply pw_below_drewN | apply below_drew1) | exact HB.out)) hb); clear HB; have HB := n0_; clear n0_; (try clear hb); (try clear hb2); (try clear hk); (try clear hi)) | ((with_reducible refine gate_callee (f := 21) rfl ?_); refine goesL_ (some 14) rfl rfl Tryd.func21 (by kernel_rfl) rfl #[.slice A0 l0.length c0] rfl (by (try simp only [List.map_toArray, List.map_cons, List.map_nil]); first | done | rfl | (simp only [List.length_drop, List.length_take]; rfl)) ?_; (with_reducible refine (catchpitref05_Great.calls k _ _ l0 true _ ?side1 ?side2 ?side3 A5.out).mono ?_); (case side1 => repeat (first | exact (Kd.C_below HR0.out HB.out) | (with_reducible refine Kd.C_alloc ?_ _) | (with_reducible refine Kd.C_drewN ?_ _) | (with_reducible refine Kd.C_drew ?_))); (case side2 => exact HC0.out); (case side3 => first | exact hG | exact TabOk.drewN hG _ | exact TabOk.drewN (TabOk.drewN hG _) _ | exact TabOk.below hG (by repeat (first | (with_reducible first | exact HB.out | apply below_alloc | apply pw_below_drewN | apply below_drew1) | exact HB.out))); rintro e w' ⟨rfl, ⟨nd, rfl⟩⟩; refine ⟨_, rfl, ?_⟩))
      go_ret
      exact ⟨by first | rfl | (simp [errW_none, errW_some] <;> rfl) | (simp [*, errW_none, errW_some] <;> rfl), by repeat (first | (with_reducible first | exact HB.out | apply below_alloc | apply pw_below_drewN | apply below_drew1) | exact HB.out)⟩
    · replace c6 := Bool.eq_false_iff.mpr c6
      subst c6
      have H1 : ((catchpitref06_Put.f k l0).bind fun bt350 => (if bt350.2 = true then (if (bt350.1.size : Int) = 0 then (none) else (if 0 ≤ (Int.tmod (wrap64 (a1)) (bt350.1.size : Int)) then (if (Int.tmod (wrap64 (a1)) (bt350.1.size : Int)) ≤ (bt350.1.size : Int) then ((block_Scan.f (bt350.1.extract 0 ((Int.tmod (wrap64 (a1)) (bt350.1.size : Int)) : Int).toNat)).bind fun bt352 => (if (bt352.1.length : Int) = 0 then (if bt352.2.1 = (Int.tmod (wrap64 (a1)) (bt350.1.size : Int)) then (some (bt352.2.2 == 4)) else (some false)) else (some false))) else (none)) else (none))) else (some true))) = some r := by rw [if_neg (show ¬ (false = true) by decide)] at H; exact H
      clear H
      have H := H1
      clear H1
      replace H := Option.bind_eq_some_iff.mp H
      obtain ⟨⟨t350, t351⟩, A80, H⟩ := H
      replace H : (if t351 = true then (if (t350.size : Int) = 0 then (none) else (if 0 ≤ (Int.tmod (wrap64 (a1)) (t350.size : Int)) then (if (Int.tmod (wrap64 (a1)) (t350.size : Int)) ≤ (t350.size : Int) then ((block_Scan.f (t350.extract 0 ((Int.tmod (wrap64 (a1)) (t350.size : Int)) : Int).toNat)).bind fun bt352 => (if (bt352.1.length : Int) = 0 then (if bt352.2.1 = (Int.tmod (wrap64 (a1)) (t350.size : Int)) then (some (bt352.2.2 == 4)) else (some false)) else (some false))) else (none)) else (none))) else (some true)) = some r := H
      have A8 := Aside0.mk A80
      clear A80
      by_cases c9 : t351 = true
      · subst c9
        have H1 : (if (t350.size : Int) = 0 then (none) else (if 0 ≤ (Int.tmod (wrap64 (a1)) (t350.size : Int)) then (if (Int.tmod (wrap64 (a1)) (t350.size : Int)) ≤ (t350.size : Int) then ((block_Scan.f (t350.extract 0 ((Int.tmod (wrap64 (a1)) (t350.size : Int)) : Int).toNat)).bind fun bt352 => (if (bt352.1.length : Int) = 0 then (if bt352.2.1 = (Int.tmod (wrap64 (a1)) (t350.size : Int)) then (some (bt352.2.2 == 4)) else (some false)) else (some false))) else (none)) else (none))) = some r := by rw [if_pos rfl] at H; exact H
        clear H
        have H := H1
        clear H1
        by_cases c10 : (t350.size : Int) = 0
        · rw [if_pos c10] at H
          exact absurd H (by simp)
        · rw [if_neg c10] at H
          have c10b0 : ((t350.size : Int) == 0) = false := beq_eq_false_iff_ne.mpr c10
          have c10b1 : ((t350.size : Int) != 0) = true := bne_iff_ne.mpr c10
          obtain ⟨ji11, hji11⟩ : ∃ j_ : Int, (Int.tmod (wrap64 (a1)) (t350.size : Int)) = j_ := ⟨_, rfl⟩
          replace H : (if 0 ≤ (ji11) then (if (ji11) ≤ (t350.size : Int) then ((block_Scan.f (t350.extract 0 ((ji11) : Int).toNat)).bind fun bt352 => (if (bt352.1.length : Int) = 0 then (if bt352.2.1 = (ji11) then (some (bt352.2.2 == 4)) else (some false)) else (some false))) else (none)) else (none)) = some r := by first | (rw [hji11] at H; exact H) | (simp only [hji11] at H ⊢; exact H)
          (try rw [hji11] at A3)
          (try rw [hji11] at A5)
          (try rw [hji11] at A8)
          by_cases c12 : 0 ≤ (ji11)
          · rw [if_pos c12] at H
            have c12b0 := eq_true c12
            have c12b1 : decide (0 ≤ (ji11)) = true := decide_eq_true c12
            clear c12
            by_cases c13 : (ji11) ≤ (t350.size : Int)
            · rw [if_pos c13] at H
              have c13b0 := eq_true c13
              have c13b1 : decide ((ji11) ≤ (t350.size : Int)) = true := decide_eq_true c13
              clear c13
              replace H := Option.bind_eq_some_iff.mp H
              obtain ⟨⟨t352, t353, t354⟩, A140, H⟩ := H
              replace H : (if (t352.length : Int) = 0 then (if t353 = (ji11) then (some (t354 == 4)) else (some false)) else (some false)) = some r := H
              have A14 := Aside0.mk A140
              clear A140
              by_cases c15 : (t352.length : Int) = 0
              · rw [if_pos c15] at H
                have c15b0 : ((t352.length : Int) == 0) = true := beq_iff_eq.mpr c15
                have c15b1 : ((t352.length : Int) != 0) = false := bne_eq_false_iff_eq.mpr c15
                clear c15
                by_cases c16 : t353 = (ji11)
                · rw [if_pos c16] at H
                  have c16b0 : (t353 == (ji11)) = true := beq_iff_eq.mpr c16
                  have c16b1 : (t353 != (ji11)) = false := bne_eq_false_iff_eq.mpr c16
                  clear c16
                  obtain rfl := Option.some.inj H
                  go_enter Tryd.func9, Tryd.ntmps9
                  go_wp2_with (first | ((with_reducible refine gate_callee (f := 30) rfl ?_); refine goesL_ (some 11) rfl rfl Tryd.func30 (by kernel_rfl) rfl #[] rfl (by (try simp only [List.map_toArray, List.map_cons, List.map_nil]); first | done | rfl | (simp only [List.length_drop, List.length_take]; rfl)) ?_; (with_reducible refine (catchpitlaw06_wakes.calls  true _ ?side1 A3.out).mono ?_); (case side1 => first | exact hG | exact TabOk.drewN hG _ | exact TabOk.drewN (TabOk.drewN hG _) _ | exact TabOk.below hG (by repeat (first | (with_reducible first | exact HB.out | apply below_alloc | apply pw_below_drewN | apply below_drew1) | exact HB.out))); rintro e w17 ⟨rfl, hb⟩; refine ⟨_, rfl, ?_⟩; have n0_ := Aside0.mk (below_step (by repeat (first | (with_reducible first | exact HB.out | apply below_alloc | apply pw_below_drewN | apply below_drew1) | exact HB.out)) hb); clear HB; have HB := n0_; clear n0_; (try clear hb); (try clear hb2); (try clear hk); (try clear hi)) | ((with_reducible refine gate_callee (f := 21) rfl ?_); refine goesL_ (some 14) rfl rfl Tryd.func21 (by kernel_rfl) rfl #[.slice A0 l0.length c0] rfl (by (try simp only [List.map_toArray, List.map_cons, List.map_nil]); first | done | rfl | (simp only [List.length_drop, List.length_take]; rfl)) ?_; (with_reducible refine (catchpitref05_Great.calls k _ _ l0 false _ ?side1 ?side2 ?side3 A5.out).mono ?_); (case side1 => repeat (first | exact (Kd.C_below HR0.out HB.out) | (with_reducible refine Kd.C_alloc ?_ _) | (with_reducible refine Kd.C_drewN ?_ _) | (with_reducible refine Kd.C_drew ?_))); (case side2 => exact HC0.out); (case side3 => first | exact hG | exact TabOk.drewN hG _ | exact TabOk.drewN (TabOk.drewN hG _) _ | exact TabOk.below hG (by repeat (first | (with_reducible first | exact HB.out | apply below_alloc | apply pw_below_drewN | apply below_drew1) | exact HB.out))); rintro e w' ⟨rfl, ⟨nd, rfl⟩⟩; refine ⟨_, rfl, ?_⟩) | ((with_reducible refine gate_callee (f := 33) rfl ?_); refine goesL_ (some 17) rfl rfl Tryd.func33 (by kernel_rfl) rfl #[.slice A0 l0.length c0] rfl (by (try simp only [List.map_toArray, List.map_cons, List.map_nil]); first | done | rfl | (simp only [List.length_drop, List.length_take]; rfl)) ?_; (with_reducible refine (catchpitref06_Put.calls k _ _ l0 t350 true _ ?side1 ?side2 ?side3 A8.out).mono ?_); (case side1 => repeat (first | exact (Kd.C_below HR0.out (by repeat (first | (with_reducible first | exact HB.out | apply below_alloc | apply pw_below_drewN | apply below_drew1) | exact HB.out))) | (with_reducible refine Kd.C_alloc ?_ _) | (with_reducible refine Kd.C_drewN ?_ _) | (with_reducible refine Kd.C_drew ?_))); (case side2 => exact HC0.out); (case side3 => first | exact hG | exact TabOk.drewN hG _ | exact TabOk.drewN (TabOk.drewN hG _) _ | exact TabOk.below hG (by repeat (first | (with_reducible first | exact HB.out | apply below_alloc | apply pw_below_drewN | apply below_drew1) | exact HB.out))); rintro e w18 ⟨rfl, hb⟩; refine ⟨_, rfl, ?_⟩; have n0_ := Aside0.mk (below_step (by repeat (first | (with_reducible first | exact HB.out | apply below_alloc | apply pw_below_drewN | apply below_drew1) | exact HB.out)) hb); clear HB; have HB := n0_; clear n0_; (try clear hb); (try clear hb2); (try clear hk); (try clear hi)) | ((with_reducible refine gate_callee (f := 31) rfl ?_); refine goesL_ (some 31) rfl rfl Tryd.func31 (by kernel_rfl) rfl #[.string (t350.extract 0 ((ji11) : Int).toNat)] rfl (by (try simp only [List.map_toArray, List.map_cons, List.map_nil]); first | done | (simp only [hji11]; rfl) | rfl | (simp only [List.length_drop, List.length_take]; rfl)) ?_; (with_reducible refine (block_Scan.calls (t350.extract 0 ((ji11) : Int).toNat) t352 t353 t354 _ ?side1 A14.out).mono ?_); (case side1 => first | exact hG | exact TabOk.drewN hG _ | exact TabOk.drewN (TabOk.drewN hG _) _ | exact TabOk.below hG (by repeat (first | (with_reducible first | exact HB.out | apply below_alloc | apply pw_below_drewN | apply below_drew1) | exact HB.out))); rintro e w19 ⟨v355, rfl, ho0, hb⟩; refine ⟨_, rfl, ?_⟩; have n0_ := Aside0.mk (Kd.R_lower ho0 (below_size (by repeat (first | (with_reducible first | exact HB.out | apply below_alloc | apply pw_below_drewN | apply below_drew1) | exact HB.out)))); have n1_ := Aside0.mk (below_step (by repeat (first | (with_reducible first | exact HB.out | apply below_alloc | apply pw_below_drewN | apply below_drew1) | exact HB.out)) hb); clear HB; have HO356 := n0_; have HB := n1_; clear n0_ n1_; (try clear hb); (try clear hb2); (try clear hk); (try clear hi); (try clear ho0); obtain ⟨Ao20, co20, eo20⟩ := Kd.R_slice HO356.out; subst eo20))
                  go_ret
                  exact ⟨by first | rfl | (simp [errW_none, errW_some] <;> rfl) | (simp only [← hji11]; first | rfl | (simp [errW_none, errW_some] <;> rfl)) | (simp [*, errW_none, errW_some] <;> rfl), by repeat (first | (with_reducible first | exact HB.out | apply below_alloc | apply pw_below_drewN | apply below_drew1) | exact HB.out)⟩
                · rw [if_neg c16] at H
                  have c16b0 : (t353 == (ji11)) = false := beq_eq_false_iff_ne.mpr c16
                  have c16b1 : (t353 != (ji11)) = true := bne_iff_ne.mpr c16
                  obtain rfl := Option.some.inj H
                  go_enter Tryd.func9, Tryd.ntmps9
                  go_wp2_with (first | ((with_reducible refine gate_callee (f := 30) rfl ?_); refine goesL_ (some 11) rfl rfl Tryd.func30 (by kernel_rfl) rfl #[] rfl (by (try simp only [List.map_toArray, List.map_cons, List.map_nil]); first | done | rfl | (simp only [List.length_drop, List.length_take]; rfl)) ?_; (with_reducible refine (catchpitlaw06_wakes.calls  true _ ?side1 A3.out).mono ?_); (case side1 => first | exact hG | exact TabOk.drewN hG _ | exact TabOk.drewN (TabOk.drewN hG _) _ | exact TabOk.below hG (by repeat (first | (with_reducible first | exact HB.out | apply below_alloc | apply pw_below_drewN | apply below_drew1) | exact HB.out))); rintro e w21 ⟨rfl, hb⟩; refine ⟨_, rfl, ?_⟩; have n0_ := Aside0.mk (below_step (by repeat (first | (with_reducible first | exact HB.out | apply below_alloc | apply pw_below_drewN | apply below_drew1) | exact HB.out)) hb); clear HB; have HB := n0_; clear n0_; (try clear hb); (try clear hb2); (try clear hk); (try clear hi)) | ((with_reducible refine gate_callee (f := 21) rfl ?_); refine goesL_ (some 14) rfl rfl Tryd.func21 (by kernel_rfl) rfl #[.slice A0 l0.length c0] rfl (by (try simp only [List.map_toArray, List.map_cons, List.map_nil]); first | done | rfl | (simp only [List.length_drop, List.length_take]; rfl)) ?_; (with_reducible refine (catchpitref05_Great.calls k _ _ l0 false _ ?side1 ?side2 ?side3 A5.out).mono ?_); (case side1 => repeat (first | exact (Kd.C_below HR0.out HB.out) | (with_reducible refine Kd.C_alloc ?_ _) | (with_reducible refine Kd.C_drewN ?_ _) | (with_reducible refine Kd.C_drew ?_))); (case side2 => exact HC0.out); (case side3 => first | exact hG | exact TabOk.drewN hG _ | exact TabOk.drewN (TabOk.drewN hG _) _ | exact TabOk.below hG (by repeat (first | (with_reducible first | exact HB.out | apply below_alloc | apply pw_below_drewN | apply below_drew1) | exact HB.out))); rintro e w' ⟨rfl, ⟨nd, rfl⟩⟩; refine ⟨_, rfl, ?_⟩) | ((with_reducible refine gate_callee (f := 33) rfl ?_); refine goesL_ (some 17) rfl rfl Tryd.func33 (by kernel_rfl) rfl #[.slice A0 l0.length c0] rfl (by (try simp only [List.map_toArray, List.map_cons, List.map_nil]); first | done | rfl | (simp only [List.length_drop, List.length_take]; rfl)) ?_; (with_reducible refine (catchpitref06_Put.calls k _ _ l0 t350 true _ ?side1 ?side2 ?side3 A8.out).mono ?_); (case side1 => repeat (first | exact (Kd.C_below HR0.out (by repeat (first | (with_reducible first | exact HB.out | apply below_alloc | apply pw_below_drewN | apply below_drew1) | exact HB.out))) | (with_reducible refine Kd.C_alloc ?_ _) | (with_reducible refine Kd.C_drewN ?_ _) | (with_reducible refine Kd.C_drew ?_))); (case side2 => exact HC0.out); (case side3 => first | exact hG | exact TabOk.drewN hG _ | exact TabOk.drewN (TabOk.drewN hG _) _ | exact TabOk.below hG (by repeat (first | (with_reducible first | exact HB.out | apply below_alloc | apply pw_below_drewN | apply below_drew1) | exact HB.out))); rintro e w22 ⟨rfl, hb⟩; refine ⟨_, rfl, ?_⟩; have n0_ := Aside0.mk (below_step (by repeat (first | (with_reducible first | exact HB.out | apply below_alloc | apply pw_below_drewN | apply below_drew1) | exact HB.out)) hb); clear HB; have HB := n0_; clear n0_; (try clear hb); (try clear hb2); (try clear hk); (try clear hi)) | ((with_reducible refine gate_callee (f := 31) rfl ?_); refine goesL_ (some 31) rfl rfl Tryd.func31 (by kernel_rfl) rfl #[.string (t350.extract 0 ((ji11) : Int).toNat)] rfl (by (try simp only [List.map_toArray, List.map_cons, List.map_nil]); first | done | (simp only [hji11]; rfl) | rfl | (simp only [List.length_drop, List.length_take]; rfl)) ?_; (with_reducible refine (block_Scan.calls (t350.extract 0 ((ji11) : Int).toNat) t352 t353 t354 _ ?side1 A14.out).mono ?_); (case side1 => first | exact hG | exact TabOk.drewN hG _ | exact TabOk.drewN (TabOk.drewN hG _) _ | exact TabOk.below hG (by repeat (first | (with_reducible first | exact HB.out | apply below_alloc | apply pw_below_drewN | apply below_drew1) | exact HB.out))); rintro e w23 ⟨v355, rfl, ho0, hb⟩; refine ⟨_, rfl, ?_⟩; have n0_ := Aside0.mk (Kd.R_lower ho0 (below_size (by repeat (first | (with_reducible first | exact HB.out | apply below_alloc | apply pw_below_drewN | apply below_drew1) | exact HB.out)))); have n1_ := Aside0.mk (below_step (by repeat (first | (with_reducible first | exact HB.out | apply below_alloc | apply pw_below_drewN | apply below_drew1) | exact HB.out)) hb); clear HB; have HO356 := n0_; have HB := n1_; clear n0_ n1_; (try clear hb); (try clear hb2); (try clear hk); (try clear hi); (try clear ho0); obtain ⟨Ao24, co24, eo24⟩ := Kd.R_slice HO356.out; subst eo24))
                  go_ret
                  exact ⟨by first | rfl | (simp [errW_none, errW_some] <;> rfl) | (simp only [← hji11]; first | rfl | (simp [errW_none, errW_some] <;> rfl)) | (simp [*, errW_none, errW_some] <;> rfl), by repeat (first | (with_reducible first | exact HB.out | apply below_alloc | apply pw_below_drewN | apply below_drew1) | exact HB.out)⟩
              · rw [if_neg c15] at H
                have c15b0 : ((t352.length : Int) == 0) = false := beq_eq_false_iff_ne.mpr c15
                have c15b1 : ((t352.length : Int) != 0) = true := bne_iff_ne.mpr c15
                have c15b2 : ¬ (t352 = []) := fun h_ => c15 (by rw [h_]; rfl)
                obtain rfl := Option.some.inj H
                go_enter Tryd.func9, Tryd.ntmps9
                go_wp2_with (first | ((with_reducible refine gate_callee (f := 30) rfl ?_); refine goesL_ (some 11) rfl rfl Tryd.func30 (by kernel_rfl) rfl #[] rfl (by (try simp only [List.map_toArray, List.map_cons, List.map_nil]); first | done | rfl | (simp only [List.length_drop, List.length_take]; rfl)) ?_; (with_reducible refine (catchpitlaw06_wakes.calls  true _ ?side1 A3.out).mono ?_); (case side1 => first | exact hG | exact TabOk.drewN hG _ | exact TabOk.drewN (TabOk.drewN hG _) _ | exact TabOk.below hG (by repeat (first | (with_reducible first | exact HB.out | apply below_alloc | apply pw_below_drewN | apply below_drew1) | exact HB.out))); rintro e w25 ⟨rfl, hb⟩; refine ⟨_, rfl, ?_⟩; have n0_ := Aside0.mk (below_step (by repeat (first | (with_reducible first | exact HB.out | apply below_alloc | apply pw_below_drewN | apply below_drew1) | exact HB.out)) hb); clear HB; have HB := n0_; clear n0_; (try clear hb); (try clear hb2); (try clear hk); (try clear hi)) | ((with_reducible refine gate_callee (f := 21) rfl ?_); refine goesL_ (some 14) rfl rfl Tryd.func21 (by kernel_rfl) rfl #[.slice A0 l0.length c0] rfl (by (try simp only [List.map_toArray, List.map_cons, List.map_nil]); first | done | rfl | (simp only [List.length_drop, List.length_take]; rfl)) ?_; (with_reducible refine (catchpitref05_Great.calls k _ _ l0 false _ ?side1 ?side2 ?side3 A5.out).mono ?_); (case side1 => repeat (first | exact (Kd.C_below HR0.out HB.out) | (with_reducible refine Kd.C_alloc ?_ _) | (with_reducible refine Kd.C_drewN ?_ _) | (with_reducible refine Kd.C_drew ?_))); (case side2 => exact HC0.out); (case side3 => first | exact hG | exact TabOk.drewN hG _ | exact TabOk.drewN (TabOk.drewN hG _) _ | exact TabOk.below hG (by repeat (first | (with_reducible first | exact HB.out | apply below_alloc | apply pw_below_drewN | apply below_drew1) | exact HB.out))); rintro e w' ⟨rfl, ⟨nd, rfl⟩⟩; refine ⟨_, rfl, ?_⟩) | ((with_reducible refine gate_callee (f := 33) rfl ?_); refine goesL_ (some 17) rfl rfl Tryd.func33 (by kernel_rfl) rfl #[.slice A0 l0.length c0] rfl (by (try simp only [List.map_toArray, List.map_cons, List.map_nil]); first | done | rfl | (simp only [List.length_drop, List.length_take]; rfl)) ?_; (with_reducible refine (catchpitref06_Put.calls k _ _ l0 t350 true _ ?side1 ?side2 ?side3 A8.out).mono ?_); (case side1 => repeat (first | exact (Kd.C_below HR0.out (by repeat (first | (with_reducible first | exact HB.out | apply below_alloc | apply pw_below_drewN | apply below_drew1) | exact HB.out))) | (with_reducible refine Kd.C_alloc ?_ _) | (with_reducible refine Kd.C_drewN ?_ _) | (with_reducible refine Kd.C_drew ?_))); (case side2 => exact HC0.out); (case side3 => first | exact hG | exact TabOk.drewN hG _ | exact TabOk.drewN (TabOk.drewN hG _) _ | exact TabOk.below hG (by repeat (first | (with_reducible first | exact HB.out | apply below_alloc | apply pw_below_drewN | apply below_drew1) | exact HB.out))); rintro e w26 ⟨rfl, hb⟩; refine ⟨_, rfl, ?_⟩; have n0_ := Aside0.mk (below_step (by repeat (first | (with_reducible first | exact HB.out | apply below_alloc | apply pw_below_drewN | apply below_drew1) | exact HB.out)) hb); clear HB; have HB := n0_; clear n0_; (try clear hb); (try clear hb2); (try clear hk); (try clear hi)) | ((with_reducible refine gate_callee (f := 31) rfl ?_); refine goesL_ (some 31) rfl rfl Tryd.func31 (by kernel_rfl) rfl #[.string (t350.extract 0 ((ji11) : Int).toNat)] rfl (by (try simp only [List.map_toArray, List.map_cons, List.map_nil]); first | done | (simp only [hji11]; rfl) | rfl | (simp only [List.length_drop, List.length_take]; rfl)) ?_; (with_reducible refine (block_Scan.calls (t350.extract 0 ((ji11) : Int).toNat) t352 t353 t354 _ ?side1 A14.out).mono ?_); (case side1 => first | exact hG | exact TabOk.drewN hG _ | exact TabOk.drewN (TabOk.drewN hG _) _ | exact TabOk.below hG (by repeat (first | (with_reducible first | exact HB.out | apply below_alloc | apply pw_below_drewN | apply below_drew1) | exact HB.out))); rintro e w27 ⟨v355, rfl, ho0, hb⟩; refine ⟨_, rfl, ?_⟩; have n0_ := Aside0.mk (Kd.R_lower ho0 (below_size (by repeat (first | (with_reducible first | exact HB.out | apply below_alloc | apply pw_below_drewN | apply below_drew1) | exact HB.out)))); have n1_ := Aside0.mk (below_step (by repeat (first | (with_reducible first | exact HB.out | apply below_alloc | apply pw_below_drewN | apply below_drew1) | exact HB.out)) hb); clear HB; have HO356 := n0_; have HB := n1_; clear n0_ n1_; (try clear hb); (try clear hb2); (try clear hk); (try clear hi); (try clear ho0); obtain ⟨Ao28, co28, eo28⟩ := Kd.R_slice HO356.out; subst eo28))
                go_ret
                exact ⟨by first | rfl | (simp [errW_none, errW_some] <;> rfl) | (simp only [← hji11]; first | rfl | (simp [errW_none, errW_some] <;> rfl)) | (simp [*, errW_none, errW_some] <;> rfl), by repeat (first | (with_reducible first | exact HB.out | apply below_alloc | apply pw_below_drewN | apply below_drew1) | exact HB.out)⟩
            · rw [if_neg c13] at H
              exact absurd H (by simp)
          · rw [if_neg c12] at H
            exact absurd H (by simp)
      · replace c9 := Bool.eq_false_iff.mpr c9
        subst c9
        have H1 : (some true) = some r := by rw [if_neg (show ¬ (false = true) by decide)] at H; exact H
        clear H
        have H := H1
        clear H1
        obtain rfl := Option.some.inj H
        go_enter Tryd.func9, Tryd.ntmps9
        go_wp2_with (first | ((with_reducible refine gate_callee (f := 30) rfl ?_); refine goesL_ (some 11) rfl rfl Tryd.func30 (by kernel_rfl) rfl #[] rfl (by (try simp only [List.map_toArray, List.map_cons, List.map_nil]); first | done | rfl | (simp only [List.length_drop, List.length_take]; rfl)) ?_; (with_reducible refine (catchpitlaw06_wakes.calls  true _ ?side1 A3.out).mono ?_); (case side1 => first | exact hG | exact TabOk.drewN hG _ | exact TabOk.drewN (TabOk.drewN hG _) _ | exact TabOk.below hG (by repeat (first | (with_reducible first | exact HB.out | apply below_alloc | apply pw_below_drewN | apply below_drew1) | exact HB.out))); rintro e w29 ⟨rfl, hb⟩; refine ⟨_, rfl, ?_⟩; have n0_ := Aside0.mk (below_step (by repeat (first | (with_reducible first | exact HB.out | apply below_alloc | apply pw_below_drewN | apply below_drew1) | exact HB.out)) hb); clear HB; have HB := n0_; clear n0_; (try clear hb); (try clear hb2); (try clear hk); (try clear hi)) | ((with_reducible refine gate_callee (f := 21) rfl ?_); refine goesL_ (some 14) rfl rfl Tryd.func21 (by kernel_rfl) rfl #[.slice A0 l0.length c0] rfl (by (try simp only [List.map_toArray, List.map_cons, List.map_nil]); first | done | rfl | (simp only [List.length_drop, List.length_take]; rfl)) ?_; (with_reducible refine (catchpitref05_Great.calls k _ _ l0 false _ ?side1 ?side2 ?side3 A5.out).mono ?_); (case side1 => repeat (first | exact (Kd.C_below HR0.out HB.out) | (with_reducible refine Kd.C_alloc ?_ _) | (with_reducible refine Kd.C_drewN ?_ _) | (with_reducible refine Kd.C_drew ?_))); (case side2 => exact HC0.out); (case side3 => first | exact hG | exact TabOk.drewN hG _ | exact TabOk.drewN (TabOk.drewN hG _) _ | exact TabOk.below hG (by repeat (first | (with_reducible first | exact HB.out | apply below_alloc | apply pw_below_drewN | apply below_drew1) | exact HB.out))); rintro e w' ⟨rfl, ⟨nd, rfl⟩⟩; refine ⟨_, rfl, ?_⟩) | ((with_reducible refine gate_callee (f := 33) rfl ?_); refine goesL_ (some 17) rfl rfl Tryd.func33 (by kernel_rfl) rfl #[.slice A0 l0.length c0] rfl (by (try simp only [List.map_toArray, List.map_cons, List.map_nil]); first | done | rfl | (simp only [List.length_drop, List.length_take]; rfl)) ?_; (with_reducible refine (catchpitref06_Put.calls k _ _ l0 t350 false _ ?side1 ?side2 ?side3 A8.out).mono ?_); (case side1 => repeat (first | exact (Kd.C_below HR0.out (by repeat (first | (with_reducible first | exact HB.out | apply below_alloc | apply pw_below_drewN | apply below_drew1) | exact HB.out))) | (with_reducible refine Kd.C_alloc ?_ _) | (with_reducible refine Kd.C_drewN ?_ _) | (with_reducible refine Kd.C_drew ?_))); (case side2 => exact HC0.out); (case side3 => first | exact hG | exact TabOk.drewN hG _ | exact TabOk.drewN (TabOk.drewN hG _) _ | exact TabOk.below hG (by repeat (first | (with_reducible first | exact HB.out | apply below_alloc | apply pw_below_drewN | apply below_drew1) | exact HB.out))); rintro e w30 ⟨rfl, hb⟩; refine ⟨_, rfl, ?_⟩; have n0_ := Aside0.mk (below_step (by repeat (first | (with_reducible first | exact HB.out | apply below_alloc | apply pw_below_drewN | apply below_drew1) | exact HB.out)) hb); clear HB; have HB := n0_; clear n0_; (try clear hb); (try clear hb2); (try clear hk); (try clear hi)))
        go_ret
        exact ⟨by first | rfl | (simp [errW_none, errW_some] <;> rfl) | (simp [*, errW_none, errW_some] <;> rfl), by repeat (first | (with_reducible first | exact HB.out | apply below_alloc | apply pw_below_drewN | apply below_drew1) | exact HB.out)⟩
  · replace c4 := Bool.eq_false_iff.mpr c4
    subst c4
    have H1 : (some false) = some r := by rw [if_neg (show ¬ (false = true) by decide)] at H; exact H
    clear H
    have H := H1
    clear H1
    obtain rfl := Option.some.inj H
    go_enter Tryd.func9, Tryd.ntmps9
    go_wp2_with (first | ((with_reducible refine gate_callee (f := 30) rfl ?_); refine goesL_ (some 11) rfl rfl Tryd.func30 (by kernel_rfl) rfl #[] rfl (by (try simp only [List.map_toArray, List.map_cons, List.map_nil]); first | done | rfl | (simp only [List.length_drop, List.length_take]; rfl)) ?_; (with_reducible refine (catchpitlaw06_wakes.calls  false _ ?side1 A3.out).mono ?_); (case side1 => first | exact hG | exact TabOk.drewN hG _ | exact TabOk.drewN (TabOk.drewN hG _) _ | exact TabOk.below hG (by repeat (first | (with_reducible first | exact HB.out | apply below_alloc | apply pw_below_drewN | apply below_drew1) | exact HB.out))); rintro e w31 ⟨rfl, hb⟩; refine ⟨_, rfl, ?_⟩; have n0_ := Aside0.mk (below_step (by repeat (first | (with_reducible first | exact HB.out | apply below_alloc | apply pw_below_drewN | apply below_drew1) | exact HB.out)) hb); clear HB; have HB := n0_; clear n0_; (try clear hb); (try clear hb2); (try clear hk); (try clear hi)))
    go_ret
    exact ⟨by first | rfl | (simp [errW_none, errW_some] <;> rfl) | (simp [*, errW_none, errW_some] <;> rfl), by repeat (first | (with_reducible first | exact HB.out | apply below_alloc | apply pw_below_drewN | apply below_drew1) | exact HB.out)⟩
def catchpitlaw06_BlockJoins.j0 : Nat → ByteArray → ByteArray → Bool → Option (Bool)
  | 0, _, _, _ => none
  | k + 1, x0, x1, x26 => if x26 = true then (some true) else ((block_Scan.f x0).bind fun bt358 => (if bt358.2.2 = 2 then (if x0.size + x1.size ≤ 9223372036854775807 then ((block_Scan.f (x0 ++ x1)).bind fun bt363 => (if 0 ≤ (wrap64 (bt358.2.1 + 1)) then (if (wrap64 (bt358.2.1 + 1)) ≤ (x0.size : Int) then ((block_Scan.f (x0.extract 0 ((wrap64 (bt358.2.1 + 1)) : Int).toNat)).bind fun bt368 => (if 0 ≤ bt358.2.1 then (if bt358.2.1 ≤ (x0.size : Int) then ((block_Scan.f (x0.extract 0 (bt358.2.1 : Int).toNat)).bind fun bt373 => (if bt363.2.1 = bt358.2.1 then (if bt363.2.2 = bt358.2.2 then (if bt368.2.1 = bt358.2.1 then (if bt368.2.2 = bt358.2.2 then (if bt373.2.1 = bt358.2.1 then (some (bt373.2.2 == 4)) else (some false)) else (some false)) else (some false)) else (some false)) else (some false))) else (none)) else (none))) else (none)) else (none))) else (none)) else (some true)))
def catchpitlaw06_BlockJoins.f (k : Nat) (a0 : ByteArray) (a1 : ByteArray) : Option (Bool) := (catchpitlaw06_wakes.f).bind fun t357 => (if t357 = true then (if (a0.size : Int) > 700 then (catchpitlaw06_BlockJoins.j0 k a0 a1 true) else (catchpitlaw06_BlockJoins.j0 k a0 a1 (decide ((a1.size : Int) > 200)))) else (some false))
theorem catchpitlaw06_BlockJoins.mono_l : ∀ k, (∀ y0 y1 y2, LeO (catchpitlaw06_BlockJoins.j0 k y0 y1 y2) (catchpitlaw06_BlockJoins.j0 (k + 1) y0 y1 y2))
  | 0 => fun _ _ _ r h => by simp [catchpitlaw06_BlockJoins.j0] at h
  | k + 1 => by
    have ih0 := catchpitlaw06_BlockJoins.mono_l k
    · intro y0 y1 y2
      unfold catchpitlaw06_BlockJoins.j0
      repeat' first
      | (with_reducible exact ih0 _ _ _)
      | (with_reducible exact LeO.refl _)
      | (with_reducible exact LeO.none _)
      | (with_reducible refine LeO.ite ?_ ?_)
      | (with_reducible refine LeO.bind ?_ (fun _ => ?_))
      | exact ih0 _ _ _
      | exact LeO.none _
      | refine LeO.ite ?_ ?_
      | refine LeO.bind ?_ (fun _ => ?_)
theorem catchpitlaw06_BlockJoins.mono : ∀ a0 a1 k, LeO (catchpitlaw06_BlockJoins.f k a0 a1) (catchpitlaw06_BlockJoins.f (k + 1) a0 a1) := by
  intro a0 a1 k
  have ih0 := catchpitlaw06_BlockJoins.mono_l k
  unfold catchpitlaw06_BlockJoins.f
  repeat' first
      | (with_reducible exact ih0 _ _ _)
      | (with_reducible exact LeO.refl _)
      | (with_reducible exact LeO.none _)
      | (with_reducible refine LeO.ite ?_ ?_)
      | (with_reducible refine LeO.bind ?_ (fun _ => ?_))
      | exact ih0 _ _ _
      | exact LeO.none _
      | refine LeO.ite ?_ ?_
      | refine LeO.bind ?_ (fun _ => ?_)
end Go.Proofs.YtdkecmjoenfjdaaDoor.Pr
end
section
namespace Go.Proofs.YtdkecmjoenfjdaaDoor.Pr
open Go.RowKit Go.Proofs.YtdkecmjoenfjdaaDoorH Go.Proofs.YtdkecmjoenfjdaaDoorW.PrintWords Go.Proofs.YtdkecmjoenfjdaaDoorW.PrintLast Go.Proofs.YtdkecmjoenfjdaaDoorW.PrintMore
attribute [local go_sem] max2_int min2_int max_two min_two max_three min_three max_four min_four   -- for this text's walks alone
set_option linter.unusedVariables false
set_option linter.unusedSimpArgs false
mutual
def catchpitref06_Wrong.j1 : Nat → ByteArray → Int → Option (Int)
  | 0, _, _ => none
  | k + 1, x0, x3 => if x3 = (x0.size : Int) then (some (-1)) else (if 0 ≤ x3 then (if x3 < (x0.size : Int) then (if (bt x0 x3) = 58 then (catchpitref06_Wrong.j2 k x0 x3 (x3 == 0)) else (catchpitref06_Wrong.j2 k x0 x3 true)) else (none)) else (none))
def catchpitref06_Wrong.j2 : Nat → ByteArray → Int → Bool → Option (Int)
  | 0, _, _, _ => none
  | k + 1, x0, x3, x29 => if x29 = true then (some x3) else (catchpitref06_Wrong.l1 k x0 (wrap64 (x3 + 1)))
def catchpitref06_Wrong.j4 : Nat → ByteArray → Int → Option (Int)
  | 0, _, _ => none
  | k + 1, x0, x3 => if x3 = (x0.size : Int) then (some (-1)) else (if 0 ≤ x3 then (if x3 < (x0.size : Int) then (if (bt x0 x3) = 13 then (if (wrap64 (x3 + 1)) < (x0.size : Int) then (if 0 ≤ (wrap64 (x3 + 1)) then (if (bt x0 (wrap64 (x3 + 1))) = 10 then (some (-1)) else (some (wrap64 (x3 + 1)))) else (none)) else (some (-1))) else (some x3)) else (none)) else (none))
def catchpitref06_Wrong.l1 : Nat → ByteArray → Int → Option (Int)
  | 0, _, _ => none
  | k + 1, x0, x3 => if x3 < (x0.size : Int) then (if 0 ≤ x3 then ((catchpitref02_Byte.f (bt x0 x3)).bind fun t304 => (if t304 = true then (catchpitref06_Wrong.l1 k x0 (wrap64 (x3 + 1))) else (catchpitref06_Wrong.j4 k x0 x3))) else (none)) else (catchpitref06_Wrong.j4 k x0 x3)
def catchpitref06_Wrong.l0 : Nat → ByteArray → Int → Option (Int)
  | 0, _, _ => none
  | k + 1, x0, x3 => if x3 < (x0.size : Int) then (if 0 ≤ x3 then (if x3 ≤ (wrap64 (x3 + 1)) then (if (wrap64 (x3 + 1)) ≤ (x0.size : Int) then ((catchpitref02_Token.f k (x0.extract (x3 : Int).toNat ((wrap64 (x3 + 1)) : Int).toNat)).bind fun t303 => (if t303 = true then (catchpitref06_Wrong.l0 k x0 (wrap64 (x3 + 1))) else (catchpitref06_Wrong.j1 k x0 x3))) else (none)) else (none)) else (none)) else (catchpitref06_Wrong.j1 k x0 x3)
end
def catchpitref06_Wrong.f (k : Nat) (a0 : ByteArray) : Option (Int) := catchpitref06_Wrong.l0 k a0 0
theorem catchpitref06_Wrong.mono_l : ∀ k, (∀ y0 y1, LeO (catchpitref06_Wrong.j1 k y0 y1) (catchpitref06_Wrong.j1 (k + 1) y0 y1)) ∧ (∀ y0 y1 y2, LeO (catchpitref06_Wrong.j2 k y0 y1 y2) (catchpitref06_Wrong.j2 (k + 1) y0 y1 y2)) ∧ (∀ y0 y1, LeO (catchpitref06_Wrong.j4 k y0 y1) (catchpitref06_Wrong.j4 (k + 1) y0 y1)) ∧ (∀ y0 y1, LeO (catchpitref06_Wrong.l1 k y0 y1) (catchpitref06_Wrong.l1 (k + 1) y0 y1)) ∧ (∀ y0 y1, LeO (catchpitref06_Wrong.l0 k y0 y1) (catchpitref06_Wrong.l0 (k + 1) y0 y1))
  | 0 => ⟨fun _ _ r h => by simp [catchpitref06_Wrong.j1] at h, fun _ _ _ r h => by simp [catchpitref06_Wrong.j2] at h, fun _ _ r h => by simp [catchpitref06_Wrong.j4] at h, fun _ _ r h => by simp [catchpitref06_Wrong.l1] at h, fun _ _ r h => by simp [catchpitref06_Wrong.l0] at h⟩
  | k + 1 => by
    obtain ⟨ih0, ih1, ih2, ih3, ih4⟩ := catchpitref06_Wrong.mono_l k
    refine ⟨?_, ?_, ?_, ?_, ?_⟩
    · intro y0 y1
      unfold catchpitref06_Wrong.j1
      repeat' first
      | (with_reducible exact ih0 _ _)
      | (with_reducible exact ih1 _ _ _)
      | (with_reducible exact ih2 _ _)
      | (with_reducible exact ih3 _ _)
      | (with_reducible exact ih4 _ _)
      | (with_reducible exact catchpitref02_Token.mono _ _)
      | (with_reducible exact LeO.refl _)
      | (with_reducible exact LeO.none _)
      | (with_reducible refine LeO.ite ?_ ?_)
      | (with_reducible refine LeO.bind ?_ (fun _ => ?_))
      | exact ih0 _ _
      | exact ih1 _ _ _
      | exact ih2 _ _
      | exact ih3 _ _
      | exact ih4 _ _
      | exact catchpitref02_Token.mono _ _
      | exact LeO.none _
      | refine LeO.ite ?_ ?_
      | refine LeO.bind ?_ (fun _ => ?_)
    · intro y0 y1 y2
      unfold catchpitref06_Wrong.j2
      repeat' first
      | (with_reducible exact ih0 _ _)
      | (with_reducible exact ih1 _ _ _)
      | (with_reducible exact ih2 _ _)
      | (with_reducible exact ih3 _ _)
      | (with_reducible exact ih4 _ _)
      | (with_reducible exact catchpitref02_Token.mono _ _)
      | (with_reducible exact LeO.refl _)
      | (with_reducible exact LeO.none _)
      | (with_reducible refine LeO.ite ?_ ?_)
      | (with_reducible refine LeO.bind ?_ (fun _ => ?_))
      | exact ih0 _ _
      | exact ih1 _ _ _
      | exact ih2 _ _
      | exact ih3 _ _
      | exact ih4 _ _
      | exact catchpitref02_Token.mono _ _
      | exact LeO.none _
      | refine LeO.ite ?_ ?_
      | refine LeO.bind ?_ (fun _ => ?_)
    · intro y0 y1
      unfold catchpitref06_Wrong.j4
      repeat' first
      | (with_reducible exact ih0 _ _)
      | (with_reducible exact ih1 _ _ _)
      | (with_reducible exact ih2 _ _)
      | (with_reducible exact ih3 _ _)
      | (with_reducible exact ih4 _ _)
      | (with_reducible exact catchpitref02_Token.mono _ _)
      | (with_reducible exact LeO.refl _)
      | (with_reducible exact LeO.none _)
      | (with_reducible refine LeO.ite ?_ ?_)
      | (with_reducible refine LeO.bind ?_ (fun _ => ?_))
      | exact ih0 _ _
      | exact ih1 _ _ _
      | exact ih2 _ _
      | exact ih3 _ _
      | exact ih4 _ _
      | exact catchpitref02_Token.mono _ _
      | exact LeO.none _
      | refine LeO.ite ?_ ?_
      | refine LeO.bind ?_ (fun _ => ?_)
    · intro y0 y1
      unfold catchpitref06_Wrong.l1
      repeat' first
      | (with_reducible exact ih0 _ _)
      | (with_reducible exact ih1 _ _ _)
      | (with_reducible exact ih2 _ _)
      | (with_reducible exact ih3 _ _)
      | (with_reducible exact ih4 _ _)
      | (with_reducible exact catchpitref02_Token.mono _ _)
      | (with_reducible exact LeO.refl _)
      | (with_reducible exact LeO.none _)
      | (with_reducible refine LeO.ite ?_ ?_)
      | (with_reducible refine LeO.bind ?_ (fun _ => ?_))
      | exact ih0 _ _
      | exact ih1 _ _ _
      | exact ih2 _ _
      | exact ih3 _ _
      | exact ih4 _ _
      | exact catchpitref02_Token.mono _ _
      | exact LeO.none _
      | refine LeO.ite ?_ ?_
      | refine LeO.bind ?_ (fun _ => ?_)
    · intro y0 y1
      unfold catchpitref06_Wrong.l0
      repeat' first
      | (with_reducible exact ih0 _ _)
      | (with_reducible exact ih1 _ _ _)
      | (with_reducible exact ih2 _ _)
      | (with_reducible exact ih3 _ _)
      | (with_reducible exact ih4 _ _)
      | (with_reducible exact catchpitref02_Token.mono _ _)
      | (with_reducible exact LeO.refl _)
      | (with_reducible exact LeO.none _)
      | (with_reducible refine LeO.ite ?_ ?_)
      | (with_reducible refine LeO.bind ?_ (fun _ => ?_))
      | exact ih0 _ _
      | exact ih1 _ _ _
      | exact ih2 _ _
      | exact ih3 _ _
      | exact ih4 _ _
      | exact catchpitref02_Token.mono _ _
      | exact LeO.none _
      | refine LeO.ite ?_ ?_
      | refine LeO.bind ?_ (fun _ => ?_)
theorem catchpitref06_Wrong.mono : ∀ a0 k, LeO (catchpitref06_Wrong.f k a0) (catchpitref06_Wrong.f (k + 1) a0) := by
  intro a0 k
  obtain ⟨ih0, ih1, ih2, ih3, ih4⟩ := catchpitref06_Wrong.mono_l k
  unfold catchpitref06_Wrong.f
  repeat' first
      | (with_reducible exact ih0 _ _)
      | (with_reducible exact ih1 _ _ _)
      | (with_reducible exact ih2 _ _)
      | (with_reducible exact ih3 _ _)
      | (with_reducible exact ih4 _ _)
      | (with_reducible exact catchpitref02_Token.mono _ _)
      | (with_reducible exact LeO.refl _)
      | (with_reducible exact LeO.none _)
      | (with_reducible refine LeO.ite ?_ ?_)
      | (with_reducible refine LeO.bind ?_ (fun _ => ?_))
      | exact ih0 _ _
      | exact ih1 _ _ _
      | exact ih2 _ _
      | exact ih3 _ _
      | exact ih4 _ _
      | exact catchpitref02_Token.mono _ _
      | exact LeO.none _
      | refine LeO.ite ?_ ?_
      | refine LeO.bind ?_ (fun _ => ?_)
end Go.Proofs.YtdkecmjoenfjdaaDoor.Pr
end
section
namespace Go.Proofs.YtdkecmjoenfjdaaDoor.Pr
open Go.RowKit Go.Proofs.YtdkecmjoenfjdaaDoorH Go.Proofs.YtdkecmjoenfjdaaDoorW.PrintWords Go.Proofs.YtdkecmjoenfjdaaDoorW.PrintLast Go.Proofs.YtdkecmjoenfjdaaDoorW.PrintMore
attribute [local go_sem] max2_int min2_int max_two min_two max_three min_three max_four min_four   -- for this text's walks alone
set_option linter.unusedVariables false
set_option linter.unusedSimpArgs false
def catchpitref06_End.l0 : Nat → ByteArray → Int → Option (Int)
  | 0, _, _ => none
  | k + 1, x0, x3 => if (wrap64 (x3 + 1)) < (x0.size : Int) then (if 0 ≤ x3 then (if x3 < (x0.size : Int) then (if (bt x0 x3) = 13 then (if 0 ≤ (wrap64 (x3 + 1)) then (if (bt x0 (wrap64 (x3 + 1))) = 10 then (some (wrap64 (x3 + 2))) else (catchpitref06_End.l0 k x0 (wrap64 (x3 + 1)))) else (none)) else (catchpitref06_End.l0 k x0 (wrap64 (x3 + 1)))) else (none)) else (none)) else (some (-1))
def catchpitref06_End.f (k : Nat) (a0 : ByteArray) : Option (Int) := catchpitref06_End.l0 k a0 0
theorem catchpitref06_End.mono_l : ∀ k, (∀ y0 y1, LeO (catchpitref06_End.l0 k y0 y1) (catchpitref06_End.l0 (k + 1) y0 y1))
  | 0 => fun _ _ r h => by simp [catchpitref06_End.l0] at h
  | k + 1 => by
    have ih0 := catchpitref06_End.mono_l k
    · intro y0 y1
      unfold catchpitref06_End.l0
      repeat' first
      | (with_reducible exact ih0 _ _)
      | (with_reducible exact LeO.refl _)
      | (with_reducible exact LeO.none _)
      | (with_reducible refine LeO.ite ?_ ?_)
      | (with_reducible refine LeO.bind ?_ (fun _ => ?_))
      | exact ih0 _ _
      | exact LeO.none _
      | refine LeO.ite ?_ ?_
      | refine LeO.bind ?_ (fun _ => ?_)
theorem catchpitref06_End.mono : ∀ a0 k, LeO (catchpitref06_End.f k a0) (catchpitref06_End.f (k + 1) a0) := by
  intro a0 k
  have ih0 := catchpitref06_End.mono_l k
  unfold catchpitref06_End.f
  repeat' first
      | (with_reducible exact ih0 _ _)
      | (with_reducible exact LeO.refl _)
      | (with_reducible exact LeO.none _)
      | (with_reducible refine LeO.ite ?_ ?_)
      | (with_reducible refine LeO.bind ?_ (fun _ => ?_))
      | exact ih0 _ _
      | exact LeO.none _
      | refine LeO.ite ?_ ?_
      | refine LeO.bind ?_ (fun _ => ?_)
end Go.Proofs.YtdkecmjoenfjdaaDoor.Pr
end
section
namespace Go.Proofs.YtdkecmjoenfjdaaDoorH
open Go.RowKit Go.Proofs.YtdkecmjoenfjdaaDoorW.PrintWords Go.Proofs.YtdkecmjoenfjdaaDoorW.PrintLast Go.Proofs.YtdkecmjoenfjdaaDoorW.PrintMore Go.Proofs.YtdkecmjoenfjdaaDoor.Pr
def tokU (c : UInt8) : Bool := tokI (c.toNat : Int)
def textU (c : UInt8) : Bool := textI (c.toNat : Int)
theorem all_bytes {p : UInt8 → Prop} (h : ∀ n : Fin 256, p (UInt8.ofNat n.val)) (c : UInt8) : p c := by
  have := h ⟨c.toNat, c.toNat_lt⟩
  simpa using this
theorem nxt0 (c : UInt8) : nxt 0 (c.toNat : Int) = if c = 13 then (4, true) else (1, tokU c) := all_bytes (p := fun c => nxt 0 (c.toNat : Int) = if c = 13 then (4, true) else (1, tokU c)) (by decide +kernel) c
theorem nxt1 (c : UInt8) : nxt 1 (c.toNat : Int) = if c = 58 then (2, true) else (1, tokU c) := all_bytes (p := fun c => nxt 1 (c.toNat : Int) = if c = 58 then (2, true) else (1, tokU c)) (by decide +kernel) c
theorem nxt2 (c : UInt8) : nxt 2 (c.toNat : Int) = if c = 13 then (3, true) else (2, textU c) := all_bytes (p := fun c => nxt 2 (c.toNat : Int) = if c = 13 then (3, true) else (2, textU c)) (by decide +kernel) c
theorem nxt3 (c : UInt8) : nxt 3 (c.toNat : Int) = (0, c == 10) := all_bytes (p := fun c => nxt 3 (c.toNat : Int) = (0, c == 10)) (by decide +kernel) c
theorem nxt4 (c : UInt8) : nxt 4 (c.toNat : Int) = (5, c == 10) := all_bytes (p := fun c => nxt 4 (c.toNat : Int) = (5, c == 10)) (by decide +kernel) c
theorem tok_ne (c : UInt8) : tokU c = true → c ≠ 58 ∧ c ≠ 13 ∧ c ≠ 10 := all_bytes (p := fun c => tokU c = true → c ≠ 58 ∧ c ≠ 13 ∧ c ≠ 10) (by decide +kernel) c
theorem text_ne (c : UInt8) : textU c = true → c ≠ 13 ∧ c ≠ 10 := all_bytes (p := fun c => textU c = true → c ≠ 13 ∧ c ≠ 10) (by decide +kernel) c
def scanL : Nat → List UInt8 → Int → Nat × Int
  | i, [], _ => (i, 4)
  | i, c :: l, st => if (nxt st (c.toNat : Int)).2 = true then (if (nxt st (c.toNat : Int)).1 = 5 then (i + 1, 0) else scanL (i + 1) l (nxt st (c.toNat : Int)).1) else (i, 2)
theorem drop_byte (s : ByteArray) (i : Nat) (h : i < s.size) : ∃ c, s.data.toList.drop i = c :: s.data.toList.drop (i + 1) ∧ bt s (i : Int) = (c.toNat : Int) := by
  have hi : i < s.data.toList.length := by rw [← size_eq_length]; exact h
  refine ⟨s.data.toList[i], List.drop_eq_getElem_cons hi, ?_⟩
  rw [bt_nat s i h, List.getD_eq_getElem?_getD, List.getElem?_eq_getElem hi]
  rfl
theorem scanP_L (s : ByteArray) : ∀ (k i : Nat) (st : Int), i ≤ s.size → s.size - i < k → scanP k s i st = scanL i (s.data.toList.drop i) st
  | 0, i, st, h1, h2 => by omega
  | k + 1, i, st, h1, h2 => by
    by_cases h : i < s.size
    · obtain ⟨c, hd, hb⟩ := drop_byte s i h
      rw [scanP, if_pos h, hd, scanL, hb, scanP_L s k (i + 1) _ (by omega) (by omega)]
    · rw [scanP, if_neg h, List.drop_eq_nil_of_le (by rw [← size_eq_length]; omega), scanL]
theorem scanP_whole (s : ByteArray) : scanP (s.size + 1) s 0 0 = scanL 0 s.data.toList 0 := by
  rw [scanP_L s _ 0 0 (Nat.zero_le _) (by omega), List.drop_zero]
theorem scanL_name : ∀ (a : List UInt8) (i : Nat) (r : List UInt8), (∀ c ∈ a, tokU c = true) → scanL i (a ++ r) 1 = scanL (i + a.length) r 1
  | [], i, r, _ => rfl
  | c :: a, i, r, h => by
    have hc := h c List.mem_cons_self
    rw [List.cons_append, scanL, nxt1, if_neg (tok_ne c hc).1, if_pos hc, if_neg (show ¬(1 : Int) = 5 by decide), scanL_name a (i + 1) r (fun d hd => h d (List.mem_cons_of_mem _ hd)), List.length_cons]
    congr 1
    omega
theorem scanL_value : ∀ (a : List UInt8) (i : Nat) (r : List UInt8), (∀ c ∈ a, textU c = true) → scanL i (a ++ r) 2 = scanL (i + a.length) r 2
  | [], i, r, _ => rfl
  | c :: a, i, r, h => by
    have hc := h c List.mem_cons_self
    rw [List.cons_append, scanL, nxt2, if_neg (text_ne c hc).1, if_pos hc, if_neg (show ¬(2 : Int) = 5 by decide), scanL_value a (i + 1) r (fun d hd => h d (List.mem_cons_of_mem _ hd)), List.length_cons]
    congr 1
    omega
theorem scanL_head (a : List UInt8) (i : Nat) (r : List UInt8) (ha : ∀ c ∈ a, tokU c = true) (hne : a ≠ []) : scanL i (a ++ r) 0 = scanL (i + a.length) r 1 := by
  cases a with
  | nil => exact absurd rfl hne
  | cons c a =>
    have hc := ha c List.mem_cons_self
    rw [List.cons_append, scanL, nxt0, if_neg (tok_ne c hc).2.1, if_pos hc, if_neg (show ¬(1 : Int) = 5 by decide), scanL_name a (i + 1) r (fun d hd => ha d (List.mem_cons_of_mem _ hd)), List.length_cons]
    congr 1
    omega
theorem scanL_colon (i : Nat) (r : List UInt8) : scanL i (58 :: r) 1 = scanL (i + 1) r 2 := by rw [scanL, nxt1, if_pos rfl, if_pos rfl, if_neg (by decide)]
theorem scanL_cr (i : Nat) (r : List UInt8) : scanL i (13 :: r) 2 = scanL (i + 1) r 3 := by rw [scanL, nxt2, if_pos rfl, if_pos rfl, if_neg (by decide)]
theorem scanL_lf (i : Nat) (r : List UInt8) : scanL i (10 :: r) 3 = scanL (i + 1) r 0 := by rw [scanL, nxt3, if_pos (by decide), if_neg (by decide)]
theorem scanL_line (a v : List UInt8) (i : Nat) (r : List UInt8) (ha : ∀ c ∈ a, tokU c = true) (hne : a ≠ []) (hv : ∀ c ∈ v, textU c = true) : scanL i (a ++ 58 :: (v ++ 13 :: 10 :: r)) 0 = scanL (i + (a.length + v.length + 3)) r 0 := by
  rw [scanL_head a i _ ha hne, scanL_colon, scanL_value v _ _ hv, scanL_cr, scanL_lf]
  congr 1
  omega
end Go.Proofs.YtdkecmjoenfjdaaDoorH
end
section
namespace Go.Proofs.YtdkecmjoenfjdaaDoor.Pr
open Go.RowKit Go.Proofs.YtdkecmjoenfjdaaDoorH Go.Proofs.YtdkecmjoenfjdaaDoorW.PrintWords Go.Proofs.YtdkecmjoenfjdaaDoorW.PrintLast Go.Proofs.YtdkecmjoenfjdaaDoorW.PrintMore
attribute [local go_sem] max2_int min2_int max_two min_two max_three min_three max_four min_four   -- for this text's walks alone
set_option linter.unusedVariables false
set_option linter.unusedSimpArgs false
mutual
def catchpitref06_Scan.l0 : Nat → ByteArray → List (S24) → Int → Option ((List (S24)) × Int × Int)
  | 0, _, _, _ => none
  | k + 1, x0, x3, x4 => if 0 ≤ x4 then (if x4 ≤ (x0.size : Int) then (if ((x0.extract (x4 : Int).toNat x0.size).size : Int) = 0 then (catchpitref06_Scan.j1 k x0 x3 x4 (x0.extract (x4 : Int).toNat x0.size) true) else (catchpitref06_Scan.j1 k x0 x3 x4 (x0.extract (x4 : Int).toNat x0.size) ((x0.extract (x4 : Int).toNat x0.size).toList == ([13] : List UInt8)))) else (none)) else (none)
def catchpitref06_Scan.j1 : Nat → ByteArray → List (S24) → Int → ByteArray → Bool → Option ((List (S24)) × Int × Int)
  | 0, _, _, _, _, _ => none
  | k + 1, x0, x3, x4, x5, x19 => if x19 = true then (some (([] : List (S24)), (x0.size : Int), 4)) else (if 0 < (x5.size : Int) then (if (bt x5 0) = 13 then (if 1 < (x5.size : Int) then (if (bt x5 1) = 10 then (some (x3, wrap64 (x4 + 2), 0)) else (some (([] : List (S24)), wrap64 (x4 + 1), 2))) else (none)) else ((catchpitref06_Wrong.f k x5).bind fun t306 => (if t306 ≥ 0 then (some (([] : List (S24)), wrap64 (x4 + t306), 2)) else ((catchpitref06_End.f k x5).bind fun t307 => (if t307 < 0 then (some (([] : List (S24)), (x0.size : Int), 4)) else (if 0 ≤ (wrap64 (t307 - 2)) then (if (wrap64 (t307 - 2)) ≤ (x5.size : Int) then ((catchpitref05_Parse.f k (x5.extract 0 ((wrap64 (t307 - 2)) : Int).toNat)).bind fun bt308 => (if x3.length < 4398046511104 then (catchpitref06_Scan.l0 k x0 (x3 ++ [(⟨bt308.1, bt308.2.1⟩ : S24)]) (wrap64 (x4 + t307))) else (none))) else (none)) else (none))))))) else (none))
end
def catchpitref06_Scan.f (k : Nat) (a0 : ByteArray) : Option ((List (S24)) × Int × Int) := catchpitref06_Scan.l0 k a0 ([] : List (S24)) 0
theorem catchpitref06_Scan.mono_l : ∀ k, (∀ y0 y1 y2, LeO (catchpitref06_Scan.l0 k y0 y1 y2) (catchpitref06_Scan.l0 (k + 1) y0 y1 y2)) ∧ (∀ y0 y1 y2 y3 y4, LeO (catchpitref06_Scan.j1 k y0 y1 y2 y3 y4) (catchpitref06_Scan.j1 (k + 1) y0 y1 y2 y3 y4))
  | 0 => ⟨fun _ _ _ r h => by simp [catchpitref06_Scan.l0] at h, fun _ _ _ _ _ r h => by simp [catchpitref06_Scan.j1] at h⟩
  | k + 1 => by
    obtain ⟨ih0, ih1⟩ := catchpitref06_Scan.mono_l k
    refine ⟨?_, ?_⟩
    · intro y0 y1 y2
      unfold catchpitref06_Scan.l0
      repeat' first
      | (with_reducible exact ih0 _ _ _)
      | (with_reducible exact ih1 _ _ _ _ _)
      | (with_reducible exact catchpitref05_Parse.mono _ _)
      | (with_reducible exact catchpitref06_End.mono _ _)
      | (with_reducible exact catchpitref06_Wrong.mono _ _)
      | (with_reducible exact LeO.refl _)
      | (with_reducible exact LeO.none _)
      | (with_reducible refine LeO.ite ?_ ?_)
      | (with_reducible refine LeO.bind ?_ (fun _ => ?_))
      | exact ih0 _ _ _
      | exact ih1 _ _ _ _ _
      | exact catchpitref05_Parse.mono _ _
      | exact catchpitref06_End.mono _ _
      | exact catchpitref06_Wrong.mono _ _
      | exact LeO.none _
      | refine LeO.ite ?_ ?_
      | refine LeO.bind ?_ (fun _ => ?_)
    · intro y0 y1 y2 y3 y4
      unfold catchpitref06_Scan.j1
      repeat' first
      | (with_reducible exact ih0 _ _ _)
      | (with_reducible exact ih1 _ _ _ _ _)
      | (with_reducible exact catchpitref05_Parse.mono _ _)
      | (with_reducible exact catchpitref06_End.mono _ _)
      | (with_reducible exact catchpitref06_Wrong.mono _ _)
      | (with_reducible exact LeO.refl _)
      | (with_reducible exact LeO.none _)
      | (with_reducible refine LeO.ite ?_ ?_)
      | (with_reducible refine LeO.bind ?_ (fun _ => ?_))
      | exact ih0 _ _ _
      | exact ih1 _ _ _ _ _
      | exact catchpitref05_Parse.mono _ _
      | exact catchpitref06_End.mono _ _
      | exact catchpitref06_Wrong.mono _ _
      | exact LeO.none _
      | refine LeO.ite ?_ ?_
      | refine LeO.bind ?_ (fun _ => ?_)
theorem catchpitref06_Scan.mono : ∀ a0 k, LeO (catchpitref06_Scan.f k a0) (catchpitref06_Scan.f (k + 1) a0) := by
  intro a0 k
  obtain ⟨ih0, ih1⟩ := catchpitref06_Scan.mono_l k
  unfold catchpitref06_Scan.f
  repeat' first
      | (with_reducible exact ih0 _ _ _)
      | (with_reducible exact ih1 _ _ _ _ _)
      | (with_reducible exact catchpitref05_Parse.mono _ _)
      | (with_reducible exact catchpitref06_End.mono _ _)
      | (with_reducible exact catchpitref06_Wrong.mono _ _)
      | (with_reducible exact LeO.refl _)
      | (with_reducible exact LeO.none _)
      | (with_reducible refine LeO.ite ?_ ?_)
      | (with_reducible refine LeO.bind ?_ (fun _ => ?_))
      | exact ih0 _ _ _
      | exact ih1 _ _ _ _ _
      | exact catchpitref05_Parse.mono _ _
      | exact catchpitref06_End.mono _ _
      | exact catchpitref06_Wrong.mono _ _
      | exact LeO.none _
      | refine LeO.ite ?_ ?_
      | refine LeO.bind ?_ (fun _ => ?_)
def catchpitlaw06_BlockScans.f (k : Nat) (a0 : ByteArray) : Option (Bool) := (catchpitlaw06_wakes.f).bind fun t315 => (if t315 = true then (if (a0.size : Int) > 1000 then (some true) else ((block_Scan.f a0).bind fun bt316 => ((catchpitref06_Scan.f k a0).bind fun bt321 => ((catchpitref05_Fields.f k bt316.1 bt321.1).bind fun t327 => (if t327 = true then (if bt316.2.1 = bt321.2.1 then (some (bt316.2.2 == bt321.2.2)) else (some false)) else (some false)))))) else (some false))
theorem catchpitlaw06_BlockScans.mono : ∀ a0 k, LeO (catchpitlaw06_BlockScans.f k a0) (catchpitlaw06_BlockScans.f (k + 1) a0) := by
  intro a0 k
  unfold catchpitlaw06_BlockScans.f
  repeat' first
      | (with_reducible exact catchpitref05_Fields.mono _ _ _)
      | (with_reducible exact catchpitref06_Scan.mono _ _)
      | (with_reducible exact LeO.refl _)
      | (with_reducible exact LeO.none _)
      | (with_reducible refine LeO.ite ?_ ?_)
      | (with_reducible refine LeO.bind ?_ (fun _ => ?_))
      | exact catchpitref05_Fields.mono _ _ _
      | exact catchpitref06_Scan.mono _ _
      | exact LeO.none _
      | refine LeO.ite ?_ ?_
      | refine LeO.bind ?_ (fun _ => ?_)
end Go.Proofs.YtdkecmjoenfjdaaDoor.Pr
end
section
namespace Go.Proofs.YtdkecmjoenfjdaaDoorH
open Go.RowKit Go.Proofs.YtdkecmjoenfjdaaDoorW.PrintWords Go.Proofs.YtdkecmjoenfjdaaDoorW.PrintLast Go.Proofs.YtdkecmjoenfjdaaDoorW.PrintMore Go.Proofs.YtdkecmjoenfjdaaDoor.Pr
theorem four : ¬((4 : Int) = 0) := by decide
theorem four5 : ¬((4 : Int) = 5) := by decide
theorem block_Scan_eq (s : ByteArray) (hs : s.size < 4000000000) : block_Scan.f s = some (scanR s) := by
  unfold block_Scan.f
  rw [if_pos hs]
end Go.Proofs.YtdkecmjoenfjdaaDoorH
end
section
namespace Go.Proofs.YtdkecmjoenfjdaaDoorH
open Go.RowKit Go.Proofs.YtdkecmjoenfjdaaDoorW.PrintWords Go.Proofs.YtdkecmjoenfjdaaDoorW.PrintLast Go.Proofs.YtdkecmjoenfjdaaDoorW.PrintMore Go.Proofs.YtdkecmjoenfjdaaDoor.Pr
theorem wakes06 : catchpitlaw06_wakes.f = some true := by
  unfold catchpitlaw06_wakes.f
  rw [block_Scan_eq _ (by decide), Option.bind_some, block_Scan_eq _ (by decide), Option.bind_some]
  decide +kernel
theorem scanL_cut : ∀ (l : List UInt8) (i m : Nat) (st : Int), i + m ≤ (scanL i l st).1 → ((scanL i l st).2 = 0 → i + m < (scanL i l st).1) → scanL i (l.take m) st = (i + m, 4)
  | [], i, m, st, h, _ => by
    obtain rfl : m = 0 := by
      have : (scanL i [] st).1 = i := rfl
      omega
    rfl
  | c :: l, i, m, st, h, h0 => by
    cases m with
    | zero => rfl
    | succ m =>
      rw [scanL] at h h0
      rw [List.take_succ_cons, scanL]
      by_cases h1 : (nxt st (c.toNat : Int)).2 = true
      · rw [if_pos h1] at h h0 ⊢
        by_cases h2 : (nxt st (c.toNat : Int)).1 = 5
        · rw [if_pos h2] at h h0
          have := h0 rfl
          simp only at this
          omega
        · rw [if_neg h2] at h h0 ⊢
          rw [scanL_cut l (i + 1) m _ (by omega) (fun e => by have := h0 e; omega)]
          congr 1
          omega
      · rw [if_neg h1] at h
        simp only at h
        omega
theorem scanR_not {s : ByteArray} {p : Nat} {e : Int} (h : scanL 0 s.data.toList 0 = (p, e)) (he : e ≠ 0) : scanR s = ([], (p : Int), e) := scanR_bad (by rw [scanP_whole]; exact h) he
theorem put_shape (a b : ByteArray) (hr : rightB a b = true) : ∃ v, (putS a b).data.toList = a.data.toList ++ 58 :: v ∧ (∀ c ∈ a.data.toList, tokU c = true) ∧ a.data.toList ≠ [] ∧ (∀ c ∈ v, textU c = true) := by
  unfold rightB valueB tokB allB at hr
  rw [Bool.and_eq_true, Bool.and_eq_true, Bool.and_eq_true, List.all_eq_true, List.all_eq_true] at hr
  obtain ⟨⟨h1, h2⟩, h3, h4⟩ := hr
  have hne : a.data.toList ≠ [] := by
    intro e
    rw [e] at h1
    exact absurd h1 (by decide)
  unfold putS
  by_cases h : b.size = 0
  · rw [if_pos h]
    exact ⟨[], by rw [data_append], h2, hne, fun _ h => absurd h List.not_mem_nil⟩
  · rw [if_neg h]
    refine ⟨32 :: b.data.toList, by rw [data_append, data_append, List.append_assoc]; rfl, h2, hne, fun c hc => ?_⟩
    rcases List.mem_cons.1 hc with rfl | hc
    · decide +kernel
    · exact h3 c hc
theorem scanL_sect : ∀ (l : List Fld) (i : Nat) (r : List UInt8), allRight l = true → scanL i (linesL l ++ 13 :: 10 :: r) 0 = (i + (linesL l).length + 2, 0)
  | [], i, r, _ => by
    rw [linesL, List.nil_append, scanL, nxt0, if_pos rfl, if_pos rfl, if_neg four5, scanL, nxt4, if_pos (by rfl), if_pos rfl]
    rfl
  | x :: l, i, r, h => by
    unfold allRight at h
    rw [List.all_cons, Bool.and_eq_true] at h
    obtain ⟨v, h1, h2, h3, h4⟩ := put_shape x.f0 x.f1 h.1
    have e : linesL (x :: l) ++ 13 :: 10 :: r = x.f0.data.toList ++ 58 :: (v ++ 13 :: 10 :: (linesL l ++ 13 :: 10 :: r)) := by
      rw [linesL, h1]
      simp
    have hl : (linesL (x :: l)).length = x.f0.data.toList.length + v.length + 3 + (linesL l).length := by
      rw [linesL, h1]
      simp only [List.length_append, List.length_cons, List.length_nil]
      omega
    rw [e, scanL_line _ _ _ _ h2 h3 h4, scanL_sect l _ r h.2, hl]
    congr 1
    omega
theorem sectL_data (l : List Fld) : (sectL l).data.toList = linesL l ++ [13, 10] := rfl
theorem sectL_size (l : List Fld) : (sectL l).size = (linesL l).length + 2 := by rw [size_eq_length, sectL_data, List.length_append]; rfl
theorem sectL_le (l : List Fld) : (sectL l).size ≤ 4 * sumF l + 2 := by
  have := linesL_length l
  rw [sectL_size]
  omega
theorem ref06_Put_l0 (l : List Fld) (hl : Small1 l) (hs : sumF l ≤ 1000000) : ∃ K, ∀ (d i k : Nat), i ≤ l.length → l.length - i = d → K + d < k → allRight (l.take i) = true →
    catchpitref06_Put.l0 k l ⟨(linesL (l.take i)).toArray⟩ (i : Int) = some (if allRight l = true then (sectL l, true) else (⟨#[]⟩, false)) := by
  obtain ⟨K, hK⟩ := ev_all (fun k (x : Fld) => catchpitref05_Right.f k x.f0 x.f1) (fun x => rightB x.f0 x.f1) l (fun x hx => ref05_Right x.f0 x.f1 (by have := hl x hx; omega) (by have := hl x hx; omega))
  have hn := sumF_length l
  refine ⟨K, fun d => ?_⟩
  induction d with
  | zero =>
    intro i k h1 h2 h3 h4
    obtain ⟨k, rfl⟩ : ∃ m, k = m + 1 := ⟨k - 1, by omega⟩
    rw [List.take_of_length_le (by omega)] at h4 ⊢
    have hz : (⟨(linesL l).toArray⟩ : ByteArray).size = (linesL l).length := rfl
    have := linesL_length l
    rw [catchpitref06_Put.l0, if_neg (by omega), if_pos (by omega), if_pos h4]
    congr 2
  | succ d ih =>
    intro i k h1 h2 h3 h4
    obtain ⟨k, rfl⟩ : ∃ m, k = m + 1 := ⟨k - 1, by omega⟩
    have hi : i < l.length := by omega
    have hm := mem_getD l z24 i hi
    have hr := hK k (by omega) _ hm
    have hx := hl _ hm
    have hsx := sumF_at l _ hm
    have hst := allRight_step l i hi
    have hlt := linesL_length (l.take i)
    have hst2 := sumF_take l i
    have hT : linesL (l.take (i + 1)) = linesL (l.take i) ++ ((putS (l.getD i z24).f0 (l.getD i z24).f1).data.toList ++ [13, 10]) := by
      rw [take_one l z24 i hi, linesL_append, linesL, linesL, List.append_nil]
    have hps := putS_size (l.getD i z24).f0 (l.getD i z24).f1
    rw [catchpitref06_Put.l0, if_pos (by omega), if_pos (by omega), rd_nat, hr, Option.bind_some]
    cases hrb : rightB (l.getD i z24).f0 (l.getD i z24).f1 with
    | true =>
      have hz : (⟨(linesL (l.take i)).toArray⟩ : ByteArray).size = (linesL (l.take i)).length := rfl
      rw [if_pos rfl, ref05_Put _ _ hx.1 hx.2, Option.bind_some, if_pos (by omega), if_pos (by rw [ByteArray.size_append]; omega), show wrap64 ((i : Int) + 1) = ((i + 1 : Nat) : Int) by unfold wrap64; omega]
      have := ih (i + 1) k (by omega) (by omega) (by omega) (by rw [hst, h4, hrb]; rfl)
      rw [hT] at this
      rw [← this]
      congr 1
      apply bytes_ext
      rw [data_append, data_append]
      simp
    | false =>
      rw [if_neg (by decide), allRight_not l _ hm hrb, if_neg (by decide)]
theorem ref06_Put (l : List Fld) (hl : Small1 l) (hs : sumF l ≤ 1000000) : Ev (fun k => catchpitref06_Put.f k l) (if allRight l = true then (sectL l, true) else (⟨#[]⟩, false)) := by
  obtain ⟨K, hK⟩ := ref06_Put_l0 l hl hs
  exact ⟨K + l.length + 1, fun k hk => hK l.length 0 k (Nat.zero_le _) (by omega) (by omega) rfl⟩
end Go.Proofs.YtdkecmjoenfjdaaDoorH
end
section
namespace Go.Proofs.YtdkecmjoenfjdaaDoor.Pure
open Go.RowKit Go.Proofs.YtdkecmjoenfjdaaDoorH Go.Proofs.YtdkecmjoenfjdaaDoor.Pr Go.Proofs.YtdkecmjoenfjdaaDoorW.PrintWords Go.Proofs.YtdkecmjoenfjdaaDoorW.PrintLast
theorem BlockCuts (l : List Fld) (cut : Int) (hl : l.length * 32 ≤ 140737488351232 ∧ ∀ y ∈ l, y.f0.size ≤ 140737488351232 ∧ y.f1.size ≤ 140737488351232) (hw0 : (Go.Lit.int .u16 cut).wf = true) : ∃ k, catchpitlaw06_BlockCuts.f k l cut = some true := by
  have h01 : 0 ≤ cut ∧ cut ≤ 65535 := by
    rw [Go.Lit.wf, Bool.and_eq_true, decide_eq_true_eq, decide_eq_true_eq, show Go.IntKind.u16.min = 0 by decide, show Go.IntKind.u16.max = 65535 by decide] at hw0
    exact hw0
  obtain ⟨h0, h1⟩ := h01
  obtain ⟨K, hK⟩ := ref05_Great l hl.2 (by omega)
  by_cases hs : 2000 < sumF l
  · refine ⟨K, ?_⟩
    have hK := hK K (by omega)
    simp only at hK
    rw [catchpitlaw06_BlockCuts.f, wakes06, Option.bind_some, if_pos rfl, hK, Option.bind_some, if_pos (decide_eq_true hs)]
  obtain ⟨K1, h1'⟩ := ref06_Put l hl.2 (by omega)
  refine ⟨K + K1, ?_⟩
  have hK := hK (K + K1) (by omega)
  have h1' := h1' (K + K1) (by omega)
  simp only at hK h1'
  have hz := sectL_le l
  rw [catchpitlaw06_BlockCuts.f, wakes06, Option.bind_some, if_pos rfl, hK, Option.bind_some, if_neg (by simpa using hs), h1', Option.bind_some]
  by_cases hr : allRight l = true
  · rw [if_pos hr]
    dsimp only
    rw [if_pos rfl]
    have hp : 0 < (sectL l).size := by rw [sectL_size]; omega
    obtain ⟨m, rfl⟩ := Int.eq_ofNat_of_zero_le h0
    have hw : wrap64 ((m : Nat) : Int) = ((m : Nat) : Int) := by unfold wrap64; omega
    have ht : Int.tmod ((m : Nat) : Int) ((sectL l).size : Int) = ((m % (sectL l).size : Nat) : Int) := rfl
    have hlt := Nat.mod_lt m hp
    have hsc := scanL_sect l 0 [] hr
    rw [show linesL l ++ 13 :: 10 :: [] = (sectL l).data.toList from rfl, Nat.zero_add, ← sectL_size] at hsc
    have hc : scanR ((sectL l).extract 0 (m % (sectL l).size)) = ([], ((m % (sectL l).size : Nat) : Int), 4) := scanR_not (by rw [extract_to, scanL_cut _ _ _ _ (by rw [hsc]; omega) (by rw [hsc]; intro _; omega), Nat.zero_add]) four
    have hx := extract0_size (sectL l) (m % (sectL l).size) (by omega)
    rw [if_neg (by omega), hw, ht, if_pos (by omega), if_pos (by omega), Int.toNat_natCast, block_Scan_eq _ (by omega), Option.bind_some, hc]
    simp
  · rw [if_neg hr, if_neg (by decide)]
end Go.Proofs.YtdkecmjoenfjdaaDoor.Pure
end
section
namespace Go.Proofs.YtdkecmjoenfjdaaDoorH
open Go.RowKit Go.ChangeShapes Go.WideShapes Go.ChangeAt
theorem two_of {α : Type} {l : List α} (h : l.length = 2) : ∃ a b, l = [a, b] := by
  match l, h with
  | [a, b], _ => exact ⟨a, b, rfl⟩
theorem three_of {α : Type} {l : List α} (h : l.length = 3) : ∃ a b c, l = [a, b, c] := by
  match l, h with
  | [a, b, c], _ => exact ⟨a, b, c, rfl⟩
theorem six_of {α : Type} {l : List α} (h : l.length = 6) : ∃ a b c d e f, l = [a, b, c, d, e, f] := by
  match l, h with
  | [a, b, c, d, e, f], _ => exact ⟨a, b, c, d, e, f, rfl⟩
theorem cells_of_one {W : World} {cs : List Value} {y : DataW Unit × List MemPlace} {m : Nat} {x0 : Int}
    (hd : DataW.trod (fun _ => ()) Tryd.prog W 0 (fun _ => true) false m 5 cs = some y) (hy : y.1 = .lit (.int .u8 x0)) : cs = [.int .u8 x0] := by
  obtain ⟨n, e1, e2, _⟩ := DataW.trod_int Tryd.underlying5 hd
  rw [e2] at hy
  simp only [DataW.lit.injEq, Lit.int.injEq, true_and] at hy
  rw [e1, hy]
theorem cells_of_pair {W : World} {cs : List Value} {y : DataW Unit × List MemPlace} {m : Nat} {x0 x1 : Int}
    (hd : DataW.trod (fun _ => ()) Tryd.prog W 0 (fun _ => true) false m 91 cs = some y) (hy : y.1 = .agg [.lit (.int .u8 x0), .lit (.int .u8 x1)]) :
    cs = [.int .u8 x0, .int .u8 x1] := by
  have c5 : Tryd.prog.cellsOf 5 = 1 := by kernel_rfl
  have c2 : Tryd.prog.cellsOf 91 = 2 := by kernel_rfl
  obtain ⟨xs, m, _, ex, hn, hl, hel⟩ := DataW.trod_array Tryd.underlying91 hd
  rw [c2] at hn
  obtain ⟨a, b, rfl⟩ := two_of hn
  obtain ⟨u, v, rfl⟩ := two_of hl
  · rw [ex] at hy
    simp only [List.map_cons, List.map_nil, DataW.agg.injEq, List.cons.injEq, and_true] at hy
    have h0 := hel 0 (by omega)
    have h1 := hel 1 (by omega)
    simp only [c5] at h0 h1
    have e0 := cells_of_one (y := u) (by simpa using h0) hy.1
    have e1 := cells_of_one (y := v) (by simpa using h1) hy.2
    simp at e0 e1
    rw [e0, e1]
theorem cells_of_pairs {W : World} {cs : List Value} {y : DataW Unit × List MemPlace} {m : Nat} {x0 x1 x2 x3 x4 x5 : Int}
    (hd : DataW.trod (fun _ => ()) Tryd.prog W 0 (fun _ => true) false m 92 cs = some y)
    (hy : y.1 = .agg [.agg [.lit (.int .u8 x0), .lit (.int .u8 x1)], .agg [.lit (.int .u8 x2), .lit (.int .u8 x3)], .agg [.lit (.int .u8 x4), .lit (.int .u8 x5)]]) :
    cs = [.int .u8 x0, .int .u8 x1, .int .u8 x2, .int .u8 x3, .int .u8 x4, .int .u8 x5] := by
  have c2 : Tryd.prog.cellsOf 91 = 2 := by kernel_rfl
  have c6 : Tryd.prog.cellsOf 92 = 6 := by kernel_rfl
  obtain ⟨xs, m, _, ex, hn, hl, hel⟩ := DataW.trod_array Tryd.underlying92 hd
  rw [c6] at hn
  obtain ⟨a, b, c, d, e, f, rfl⟩ := six_of hn
  obtain ⟨u, v, z, rfl⟩ := three_of hl
  · rw [ex] at hy
    simp only [List.map_cons, List.map_nil, DataW.agg.injEq, List.cons.injEq, and_true] at hy
    have h0 := hel 0 (by omega)
    have h1 := hel 1 (by omega)
    have h2 := hel 2 (by omega)
    simp only [c2] at h0 h1 h2
    have e0 := cells_of_pair (y := u) (by simpa using h0) hy.1
    have e1 := cells_of_pair (y := v) (by simpa using h1) hy.2.1
    have e2 := cells_of_pair (y := z) (by simpa using h2) hy.2.2
    simp at e0 e1 e2
    rw [e0.1, e0.2, e1.1, e1.2, e2.1, e2.2]
theorem tabOk_of_laid {W : World} {L : List (String × DataW Unit)} (h : laidMetH Tryd.prog L W) (hp : (L.all fun x => x.2.handleName?.isNone) = true)
    (hf : L.filter (fun x => x.1 == "catchpit/octet.ends") = [("catchpit/octet.ends", Go.Proofs.YtdkecmjoenfjdaaDoor.Rows.laid_catchpit_octet_ends)]) (hs : W.ShapedOpen Tryd.prog) : TabOk W := by
  rw [MakeChecks.laidMetH_plain _ _ _ hp] at h
  have h2 := laidMet.filter (fun x => x.1 == "catchpit/octet.ends") h
  rw [hf] at h2
  obtain ⟨ps, ⟨g, t, cs, fuel, p, q, hg, ht, hv, hd, _, _⟩, _, _⟩ := h2
  obtain rfl := Option.some.inj ((show Tryd.prog.globalNamed "catchpit/octet.ends" = some 0 by kernel_rfl).symm.trans hg)
  obtain rfl := Option.some.inj ((show (Tryd.prog.globals[0]?).map (·.type) = some 92 by kernel_rfl).symm.trans ht)
  have e := cells_of_pairs hd rfl
  have hc := World.var?_cell hg hv
  have at_ : ∀ j, cs[j]? = cs.toList[j]? := fun j => (Array.getElem?_toList ..).symm
  rw [e] at at_
  exact ⟨(hc 0).trans (at_ 0), (hc 1).trans (at_ 1), (hc 2).trans (at_ 2), (hc 3).trans (at_ 3), (hc 4).trans (at_ 4), (hc 5).trans (at_ 5), MxOk.of_shaped hs⟩
end Go.Proofs.YtdkecmjoenfjdaaDoorH
end
section
namespace Go.Proofs.YtdkecmjoenfjdaaDoorH
open Go.RowKit Go.ChangeShapes Go.WideShapes Go.ChangeAt Go.Proofs.YtdkecmjoenfjdaaDoorW.PrintWords
def Light {H : Type} (P : Program) (t : TypeId) (d : DataW H) : Prop := ∀ x ∈ DataW.weights P t d, x ≤ reachBytes
structure Opens (P : Program) {α : Type} (d : Kd α) (t : TypeId) (G : α → Prop) : Prop where
  cells : P.cellsOf t = d.sz
  open_ : ∀ {H : Type} {enc : TypeId × Value → H} {W : World} {fuel : Nat} {cs : List Value} {x : DataW H × List MemPlace},
    DataW.trod enc P W 0 (fun _ => true) true fuel t cs = some x → Light P t x.1 → ∃ y, d.K W y cs ∧ G y
theorem Opens.int {P : Program} {t : TypeId} {k : IntKind} (hu : P.underlying t = some (.int k)) (hc : P.cellsOf t = 1) : Opens P (Kd.int k) t (fun n => (Lit.int k n).wf = true) := by
  refine ⟨hc, fun h _ => ?_⟩
  obtain ⟨n, e1, e2, wf⟩ := DataW.trod_int hu h
  exact ⟨n, e1, wf⟩
theorem Opens.bool {P : Program} {t : TypeId} (hu : P.underlying t = some .bool) (hc : P.cellsOf t = 1) : Opens P Kd.bool t (fun _ => True) := by
  refine ⟨hc, fun {_ _ _ fuel cs _} h _ => ?_⟩
  cases fuel with
  | zero => simp [DataW.trod] at h
  | succ m =>
    unfold DataW.trod at h
    rw [hu] at h
    match cs, h with
    | [.bool b], _ => exact ⟨b, rfl, trivial⟩
theorem Opens.string {P : Program} {t : TypeId} (hu : P.underlying t = some .string) (hc : P.cellsOf t = 1) : Opens P Kd.string t (fun s => s.size ≤ 140737488351232) := by
  refine ⟨hc, fun h hl => ?_⟩
  obtain ⟨s, e1, e2, _⟩ := DataW.trod_string hu h
  refine ⟨s, e1, ?_⟩
  subst e2
  have := hl s.data.toList.length (by simp [DataW.weights])
  rw [data_length] at this
  exact this
theorem weightsAll_mem {H : Type} (P : Program) (e : TypeId) : ∀ (l : List (DataW H)) (d : DataW H), d ∈ l → ∀ x ∈ DataW.weights P e d, x ∈ DataW.weightsAll P e l
  | [], d, h, _, _ => by cases h
  | a :: l, d, h, x, hx => by
    rw [DataW.weightsAll]
    rcases List.mem_cons.1 h with rfl | h
    · exact List.mem_append_left _ hx
    · exact List.mem_append_right _ (weightsAll_mem P e l d h x hx)
theorem list_of {α : Type} {p : Nat → α → Prop} : ∀ n : Nat, (∀ i, i < n → ∃ y, p i y) → ∃ l : List α, l.length = n ∧ ∀ i y, l[i]? = some y → p i y
  | 0, _ => ⟨[], rfl, fun i y h => by simp at h⟩
  | n + 1, h => by
    obtain ⟨l, hl, hp⟩ := list_of n (fun i hi => h i (by omega))
    obtain ⟨y, hy⟩ := h n (by omega)
    refine ⟨l ++ [y], by simp [hl], fun i z hz => ?_⟩
    rcases Nat.lt_or_ge i n with hi | hi
    · rw [List.getElem?_append_left (by omega)] at hz
      exact hp i z hz
    · rw [List.getElem?_append_right (by omega), hl] at hz
      rcases Nat.eq_zero_or_pos (i - n) with h0 | h0
      · rw [h0] at hz
        obtain rfl : i = n := by omega
        obtain rfl : y = z := by simpa using hz
        exact hy
      · rw [List.getElem?_eq_none (by simp; omega)] at hz
        cases hz
theorem add_add (a : Addr) (i j : Nat) : (a.add i).add j = a.add (i + j) := by
  unfold Addr.add
  by_cases h1 : i = 0
  · subst h1; simp
  · by_cases h2 : j = 0
    · subst h2; simp [h1]
    · simp [h1, h2, Nat.add_assoc]
theorem cells_at {W : World} {base : Nat} {a : Addr} {n : Nat} {cs : List Value} (h : W.cells? base a n = some cs) : cs.length = n ∧ ∀ (i : Nat) u, cs[i]? = some u → W.cell? (a.add i) = some u := by
  obtain ⟨_, hn, hc⟩ := World.cells?_some h
  refine ⟨hn, fun i u hu => ?_⟩
  have hi : i < n := by
    rcases Nat.lt_or_ge i n with hi | hi
    · exact hi
    · rw [List.getElem?_eq_none (by omega)] at hu; cases hu
  rw [hc i hi, hu]
theorem Opens.slice {P : Program} {α : Type} {d : Kd α} {t e : TypeId} {G : α → Prop} (h : Opens P d e G) (hu : P.underlying t = some (.slice e)) (hc : P.cellsOf t = 1) {B : Nat} (hB : P.bytesOf e = B) :
    Opens P (Kd.slice e d) t (fun l => l.length * B ≤ 140737488351232 ∧ ∀ y ∈ l, G y) := by
  refine ⟨hc, fun {H enc W fuel cs x} hx hl => ?_⟩
  rcases Deep.open_slice hu hx with ⟨rfl, rfl⟩ | ⟨a, len, cap, m, n, D, Pl, rfl, _, hle, hm, hmm, rfl, hel⟩
  · exact ⟨[], ⟨none, 0, rfl, Nat.le_refl _, rfl, by simp, fun h => by simp at h⟩, by simp, fun y hy => by cases hy⟩
  · simp only [if_true] at hmm
    subst hmm
    have hw : (len + (m - len)) * B ≤ 140737488351232 := by
      have := hl ((len + (m - len)) * B) (by
        unfold DataW.weights
        simp only [hu, hB]
        simp)
      exact this
    have hget : ∀ i, i < len → ∃ y, (∃ c, c.length = d.sz ∧ d.K W y c ∧ ∀ j u, c[j]? = some u → W.cell? (a.add (i * d.sz + j)) = some u) ∧ G y := by
      intro i hi
      obtain ⟨cs', h1, h2⟩ := hel i (by omega)
      obtain ⟨y, hy, hg⟩ := h.open_ h2 (fun x hx => hl x (by
        unfold DataW.weights
        simp only [hu]
        refine List.mem_cons_of_mem _ (List.mem_append_left _ (weightsAll_mem P e _ (D i) ?_ x hx))
        exact List.mem_map.2 ⟨i, List.mem_range.2 hi, rfl⟩))
      obtain ⟨hn, hcell⟩ := cells_at h1
      refine ⟨y, ⟨cs', by rw [hn, h.cells], hy, fun j u hj => ?_⟩, hg⟩
      have := hcell j u hj
      rw [add_add, h.cells] at this
      exact this
    obtain ⟨l, hll, hat⟩ := list_of len hget
    refine ⟨l, ⟨some a, m, by rw [hll], by omega, rfl, by rw [hll]; unfold maxLen at hm; omega, fun _ => ⟨a, rfl, fun j p hj => (hat j p hj).1⟩⟩, ?_, fun y hy => ?_⟩
    · rw [hll]
      exact Nat.le_trans (Nat.mul_le_mul_right _ (by omega)) hw
    · obtain ⟨i, hi, rfl⟩ := List.mem_iff_getElem.1 hy
      exact (hat i _ (List.getElem?_eq_getElem hi)).2
theorem weights_agg {H : Type} {P : Program} {t : TypeId} {fs : Array Field} (hu : P.underlying t = some (.struct fs)) (xs : List (DataW H)) : DataW.weights P t (.agg xs) = DataW.weightsEach P (fs.toList.map (·.type)) xs := by
  simp [DataW.weights, hu]
theorem light_of {H : Type} {P : Program} {ts : List TypeId} {ds : List (DataW H)} (h : (DataW.weightsEach P ts ds).all (· ≤ reachBytes) = true) {j : Nat} {t : TypeId} {d : DataW H} (ht : ts[j]? = some t) (hd : ds[j]? = some d) : Light P t d := fun x hx => by
  have := List.all_eq_true.1 h x (DataW.weights_mem_each ht hd x hx)
  simpa using this
theorem Opens.struct2 {P : Program} {α β : Type} {d0 : Kd α} {d1 : Kd β} {t : TypeId} {f0 f1 : Field} {G0 : α → Prop} {G1 : β → Prop} (h0 : Opens P d0 f0.type G0) (h1 : Opens P d1 f1.type G1) (hu : P.underlying t = some (.struct #[f0, f1]))
    (o0 : f0.offset = 0) (o1 : f1.offset = d0.sz) (hc : P.cellsOf t = d0.sz + d1.sz) : Opens P (Kd.pair d0 d1) t (fun x => G0 x.1 ∧ G1 x.2) := by
  refine ⟨hc, fun {H enc W fuel cs x} hx hl => ?_⟩
  obtain ⟨y0, y1, n, rfl, hn, e0, e1⟩ := trod_struct2 hu hx
  have hw : ∀ x, x ∈ DataW.weights P t (.agg [y0.1, y1.1]) → x ≤ reachBytes := hl
  rw [weights_agg hu] at hw
  obtain ⟨x0, k0, g0⟩ := h0.open_ e0 (fun x hx => hw x (DataW.weights_mem_each (j := 0) rfl rfl x hx))
  obtain ⟨x1, k1, g1⟩ := h1.open_ e1 (fun x hx => hw x (DataW.weights_mem_each (j := 1) rfl rfl x hx))
  refine ⟨(x0, x1), ⟨_, _, ?_, k0, k1⟩, g0, g1⟩
  rw [o0, o1, h0.cells, h1.cells, List.drop_zero]
  rw [hc] at hn
  have : (cs.drop d0.sz).take d1.sz = cs.drop d0.sz := List.take_of_length_le (by rw [List.length_drop]; omega)
  rw [this, List.take_append_drop]
theorem Opens.iso {P : Program} {α β : Type} {d : Kd α} {t : TypeId} {G : α → Prop} (h : Opens P d t G) (f : β → α) (g : α → β) (hfg : ∀ y, f (g y) = y) : Opens P (Kd.iso d f) t (fun x => G (f x)) := by
  refine ⟨h.cells, fun {H enc W fuel cs x} hx hl => ?_⟩
  obtain ⟨y, hk, hg⟩ := h.open_ hx hl
  exact ⟨g y, show d.K W (f (g y)) cs by rw [hfg]; exact hk, by rw [hfg]; exact hg⟩
end Go.Proofs.YtdkecmjoenfjdaaDoorH
end
section
namespace Go.Proofs.YtdkecmjoenfjdaaDoorH
open Go
variable {H : Type} {enc : TypeId × Value → H}
theorem returns_and_shaped {a : Assume} {C : Checked} {os : Os} {f : FuncId} {fn : Func} {s : ChangeSpec} {conds : List PathCond} {apart fresh handsOn again : Bool} {X : World → Array Value → Prop}
    (hX : ∀ (w w' : World) (args : Array Value), w.heap = w'.heap → X w args → X w' args)
    (own : ownKnob C.prog.godebug = none) (started : os.Started) (noInit : C.prog.inits.idxOf? f = none) (hfn : C.prog.funcs[f]? = some fn)
    (witness : ∃ (w : World) (tape : Tape) (i : Input), w.os = os ∧ (w.forCall tape i).Shaped C.prog ∧ i.vars = [] ∧ Input.okWide C.prog (w.forCall tape i) .any w.heap.size f i ∧
      ((s.pre enc C.prog fn conds apart (w.forCall tape i).memory i.args ∧ X (w.forCall tape i).memory i.args) ∧ sizedMet enc C.prog fn (OpenSpec.ofChange s) apart (w.forCall tape i).memory i.args) ∧ a.holds C.prog (lone (Frame.enter C.prog f i.args .normal) [] (w.forCall tape i)))
    (contract : ∀ (W : World) (base : Nat) (args : Array Value) (ds gs : List (DataW H)) (before : List MemPlace),
      (∀ (j : Nat) t v, fn.params[j]? = some t → args[j]? = some v → Value.okWide C.prog W .any base t v) →
      DataW.Whole enc C.prog fn.params.toList s.vars apart W args.toList ds gs before →
      conds.all (PathCond.test C.prog ⟨fn.params.toList, ds, s.plain.varTypes C.prog, gs⟩) = true →
      (DataW.weightsEach C.prog (fn.params.toList ++ s.plain.varTypes C.prog) (ds ++ gs)).all (· ≤ reachBytes) = true → X W args →
      W.ShapedOpen C.prog →
      a.holds C.prog (lone (Frame.enter C.prog f args .normal) [] W) →
      Calls C.prog f args W fun e W' => ∃ v, e = .returned v ∧ s.post enc C.prog fn apart fresh handsOn again W args v W') :
    ReturnsInHanded a C os f .any (fun w args => (s.pre enc C.prog fn conds apart w args ∧ X w args) ∧ sizedMet enc C.prog fn (OpenSpec.ofChange s) apart w args) (s.post enc C.prog fn apart fresh handsOn again) := by
  refine returnsInHanded_of_calls own started noInit witness ?_
  intro w tape i _ hsh _ hok hpre hholds
  obtain ⟨_, _, _, fn', hfn', _, _, _, _, hval⟩ := hok
  have e : fn' = fn := Option.some.inj (hfn'.symm.trans hfn)
  subst e
  obtain ⟨⟨⟨ds, gs, before, hw, hc⟩, hx⟩, hz⟩ := hpre
  have hw' := DataW.Whole.of_heap (w' := w.forCall tape i) (by rfl) hw
  refine (contract (w.forCall tape i) w.heap.size i.args ds gs before hval hw' hc (hz.weights hw) (hX _ _ _ (by rfl) hx) hsh hholds).mono fun e W' ⟨v, he, hp⟩ => ?_
  subst he
  exact ChangeSpec.post_blind hp
end Go.Proofs.YtdkecmjoenfjdaaDoorH
end
