import Derived.Test.YtofegjgiocljlaaDoorZListCodingsP1
import Derived.Test.YtofegjgiocljlaaDoorZListCodingsP4
import Derived.Test.YtofegjgiocljlaaDoorZListCodingsP5
import Derived.Test.YtofegjgiocljlaaDoorZListCodingsP2
import Derived.Test.YtofegjgiocljlaaDoorZListCodingsP3
import Derived.Test.YtofegjgiocljlaaDoorRows
import Derived.LaidSub
import Derived.MakeChecks
import Derived.ProofKit
import Derived.OpenShut
import Derived.LaidMore
import Derived.Deep.Slices
import Derived.SizedLaws
import Derived.HandedShaped
import Derived.Handed
section
namespace Go.Proofs.YtofegjgiocljlaaDoor.Pr
open Go.RowKit Go.Proofs.YtofegjgiocljlaaDoorH Go.Proofs.YtofegjgiocljlaaDoorW.PrintWords Go.Proofs.YtofegjgiocljlaaDoorW.PrintLast Go.Proofs.YtofegjgiocljlaaDoorW.PrintMore
attribute [local go_sem] max2_int min2_int max_two min_two max_three min_three max_four min_four   -- for this text's walks alone
set_option linter.unusedVariables false
set_option linter.unusedSimpArgs false
def catchpitref07_Codings.l0 : Nat → List ByteArray → List ByteArray → Int → Option (List ByteArray × Int)
  | 0, _, _, _ => none
  | k + 1, x4, x5, x6 => if x6 < (x5.length : Int) then (if 0 ≤ x6 then ((catchpitref07_word.f k (rdOf ByteArray.empty x5 x6)).bind fun t167 => ((catchpitref02_Token.f k t167).bind fun t168 => (if t168 = true then ((catchpitref02_Small.f k t167).bind fun t169 => (if x4.length < 8796093022208 then (catchpitref07_Codings.l0 k (x4 ++ [t169]) x5 (wrap64 (x6 + 1))) else (none))) else (some (([] : List ByteArray), 2))))) else (none)) else (if (x4.length : Int) = 0 then (some (([] : List ByteArray), 2)) else (some (x4, 0)))
def catchpitref07_Codings.f (k : Nat) (l0 : List ByteArray) : Option (List ByteArray × Int) := if (l0.length : Int) = 0 then (some (([] : List ByteArray), 7)) else ((catchpitref07_Items.f k l0).bind fun t163 => (catchpitref07_Codings.l0 k ([] : List ByteArray) t163 0))
theorem catchpitref07_Codings.mono_l : ∀ k, (∀ y0 y1 y2, LeO (catchpitref07_Codings.l0 k y0 y1 y2) (catchpitref07_Codings.l0 (k + 1) y0 y1 y2))
  | 0 => fun _ _ _ r h => by simp [catchpitref07_Codings.l0] at h
  | k + 1 => by
    have ih0 := catchpitref07_Codings.mono_l k
    · intro y0 y1 y2
      unfold catchpitref07_Codings.l0
      repeat' first
      | (with_reducible exact ih0 _ _ _)
      | (with_reducible exact catchpitref02_Small.mono _ _)
      | (with_reducible exact catchpitref02_Token.mono _ _)
      | (with_reducible exact catchpitref07_Items.mono _ _)
      | (with_reducible exact catchpitref07_word.mono _ _)
      | (with_reducible exact LeO.refl _)
      | (with_reducible exact LeO.none _)
      | (with_reducible refine LeO.ite ?_ ?_)
      | (with_reducible refine LeO.bind ?_ (fun _ => ?_))
      | exact ih0 _ _ _
      | exact catchpitref02_Small.mono _ _
      | exact catchpitref02_Token.mono _ _
      | exact catchpitref07_Items.mono _ _
      | exact catchpitref07_word.mono _ _
      | exact LeO.none _
      | refine LeO.ite ?_ ?_
      | refine LeO.bind ?_ (fun _ => ?_)
theorem catchpitref07_Codings.mono : ∀ a0 k, LeO (catchpitref07_Codings.f k a0) (catchpitref07_Codings.f (k + 1) a0) := by
  intro a0 k
  have ih0 := catchpitref07_Codings.mono_l k
  unfold catchpitref07_Codings.f
  repeat' first
      | (with_reducible exact ih0 _ _ _)
      | (with_reducible exact catchpitref02_Small.mono _ _)
      | (with_reducible exact catchpitref02_Token.mono _ _)
      | (with_reducible exact catchpitref07_Items.mono _ _)
      | (with_reducible exact catchpitref07_word.mono _ _)
      | (with_reducible exact LeO.refl _)
      | (with_reducible exact LeO.none _)
      | (with_reducible refine LeO.ite ?_ ?_)
      | (with_reducible refine LeO.bind ?_ (fun _ => ?_))
      | exact ih0 _ _ _
      | exact catchpitref02_Small.mono _ _
      | exact catchpitref02_Token.mono _ _
      | exact catchpitref07_Items.mono _ _
      | exact catchpitref07_word.mono _ _
      | exact LeO.none _
      | refine LeO.ite ?_ ?_
      | refine LeO.bind ?_ (fun _ => ?_)
set_option maxHeartbeats 8000000 in
set_option maxRecDepth 100000 in
theorem catchpitref07_Codings.calls (k : Nat) (A0 : Option Addr) (c0 : Nat) (l0 : List ByteArray) (r1 : List ByteArray) (r2 : Int) (w : World) (hr0 : Kd.C Kd.string w A0 l0.length l0) (hc0 : l0.length ≤ c0) (hG : TabOk w) (h : catchpitref07_Codings.f k l0 = some (r1, r2)) :
    Calls Tryd.prog 32 #[.slice A0 l0.length c0] w fun e w' => ∃ v0_ : Value, e = .returned (.tuple #[v0_, .int .i64 r2]) ∧ Kd.R Kd.string 9 w' w.heap.size (fun _ => True) v0_ r1 ∧ Below w.heap.size w w' := by
  have HR0 := Aside0.mk hr0
  have HC0 := Aside0.mk hc0
  clear hr0 hc0
  have HB := Aside0.mk (Below.refl w.heap.size w)
  have H : (if (l0.length : Int) = 0 then (some (([] : List ByteArray), 7)) else ((catchpitref07_Items.f k l0).bind fun t163 => (catchpitref07_Codings.l0 k ([] : List ByteArray) t163 0))) = some (r1, r2) := h
  clear h
  by_cases c2 : (l0.length : Int) = 0
  · rw [if_pos c2] at H
    have c2b0 : ((l0.length : Int) == 0) = true := beq_iff_eq.mpr c2
    have c2b1 : ((l0.length : Int) != 0) = false := bne_eq_false_iff_eq.mpr c2
    clear c2
    simp only [Option.some.injEq, Prod.mk.injEq] at H
    obtain ⟨rfl, rfl⟩ := H
    go_enter Tryd.func32, Tryd.ntmps32
    go_wp2
    go_ret2
    exact ⟨_, by first | rfl | (simp [errW_none, errW_some] <;> rfl) | (simp [*, errW_none, errW_some] <;> rfl), by first | exact Kd.R_nil _ _ _ _ _ | exact Kd.N_nil _ _ _ _ _ | exact Kd.V_nil _ _ _ _ _ | exact Kd.Q_nil _ _ _ _ _ | exact Kd.S_nil _ _ _ _ _, by repeat (first | (with_reducible first | exact HB.out | apply below_alloc | apply pw_below_drewN | apply below_drew1) | exact HB.out)⟩
  · rw [if_neg c2] at H
    have c2b0 : ((l0.length : Int) == 0) = false := beq_eq_false_iff_ne.mpr c2
    have c2b1 : ((l0.length : Int) != 0) = true := bne_iff_ne.mpr c2
    have c2b2 : ¬ (l0 = []) := fun h_ => c2 (by rw [h_]; rfl)
    replace H := Option.bind_eq_some_iff.mp H
    obtain ⟨t163, A30, H⟩ := H
    replace H : (catchpitref07_Codings.l0 k ([] : List ByteArray) t163 0) = some (r1, r2) := H
    have A3 := Aside0.mk A30
    clear A30
    have H' := Aside0.mk H
    clear H
    go_enter Tryd.func32, Tryd.ntmps32
    go_wp2_with (first | ((with_reducible refine gate_callee (f := 34) rfl ?_); refine goesL_ (some 12) rfl rfl Tryd.func34 (by kernel_rfl) rfl #[.slice A0 l0.length c0] rfl (by (try simp only [List.map_toArray, List.map_cons, List.map_nil]); first | done | rfl | (simp only [List.length_drop, List.length_take]; rfl)) ?_; (with_reducible refine (catchpitref07_Items.calls k _ _ l0 t163 _ ?side1 ?side2 ?side3 A3.out).mono ?_); (case side1 => repeat (first | exact HR0.out | (with_reducible refine Kd.C_alloc ?_ _) | (with_reducible refine Kd.C_drewN ?_ _) | (with_reducible refine Kd.C_drew ?_))); (case side2 => exact HC0.out); (case side3 => first | exact hG | exact TabOk.drewN hG _ | exact TabOk.drewN (TabOk.drewN hG _) _ | exact TabOk.below hG (by repeat (first | (with_reducible first | exact HB.out | apply below_alloc | apply pw_below_drewN | apply below_drew1) | exact HB.out))); rintro e w4 ⟨v164, rfl, ho0, hb⟩; refine ⟨_, rfl, ?_⟩; have n0_ := Aside0.mk (Kd.R_lower ho0 (below_size (by repeat (first | (with_reducible first | exact HB.out | apply below_alloc | apply pw_below_drewN | apply below_drew1) | exact HB.out)))); have n1_ := Aside0.mk (below_step (by repeat (first | (with_reducible first | exact HB.out | apply below_alloc | apply pw_below_drewN | apply below_drew1) | exact HB.out)) hb); clear HB; have HO165 := n0_; have HB := n1_; clear n0_ n1_; (try clear hb); (try clear hb2); (try clear hk); (try clear hi); (try clear ho0)))
    go_loopg [4, 6] k (fun kq v4 v6 w' => ∃ (x4_1 : List ByteArray) (x6_1 : Int), v6 = .int .i64 x6_1 ∧ Aside0 (catchpitref07_Codings.l0 kq x4_1 t163 x6_1 = some (r1, r2)) ∧ Aside0 (kq ≤ k) ∧ Aside0 (Kd.R Kd.string 9 w' w.heap.size (fun k_ => some k_ ≠ (v164 : Value).ownBlock) v4 x4_1) ∧ Aside0 (Kd.R Kd.string 9 w' w.heap.size (fun k_ => some k_ ≠ (v4 : Value).ownBlock) v164 t163) ∧ Aside0 (Below w.heap.size w w'))
    case atStart => exact ⟨(([] : List ByteArray)), (0), (by first | rfl | (simp; done) | (simp [*]; done)), H', ⟨Nat.le_refl _⟩, ⟨by first | exact Kd.R_nil _ _ _ _ _ | exact Kd.N_nil _ _ _ _ _ | exact Kd.V_nil _ _ _ _ _ | exact Kd.Q_nil _ _ _ _ _ | exact Kd.S_nil _ _ _ _ _⟩, ⟨by (with_reducible repeat (first | apply Kd.R_alloc | apply Kd.R_drewN | apply Kd.R_drew)); exact Kd.R_mono HO165.out (fun _ hk => (by simp [Value.ownBlock]))⟩, ⟨by repeat (first | (with_reducible first | exact HB.out | apply below_alloc | apply pw_below_drewN | apply below_drew1) | exact HB.out)⟩⟩
    case round =>
      clear H'
      try clear c2
      try clear c2b0
      try clear c2b1
      try clear c2b2
      try clear p2
      try clear c3
      obtain ⟨x4_1, x6_1, rfl, HA, HK1, HO_4, HO_5, HB⟩ := hrel
      cases gk with
      | zero => exact absurd HA.out (by simp [catchpitref07_Codings.l0])
      | succ k1 =>
        have H := HA.out
        clear HA
        simp only [catchpitref07_Codings.l0] at H
        by_cases c5 : x6_1 < (t163.length : Int)
        · rw [if_pos c5] at H
          have c5b0 : decide (x6_1 < (t163.length : Int)) = true := decide_eq_true c5
          clear c5
          by_cases c6 : 0 ≤ x6_1
          · rw [if_pos c6] at H
            have c6b0 : decide (0 ≤ x6_1) = true := decide_eq_true c6
            clear c6
            replace H := Option.bind_eq_some_iff.mp H
            obtain ⟨t167, A70, H⟩ := H
            replace H : ((catchpitref02_Token.f k1 t167).bind fun t168 => (if t168 = true then ((catchpitref02_Small.f k1 t167).bind fun t169 => (if x4_1.length < 8796093022208 then (catchpitref07_Codings.l0 k1 (x4_1 ++ [t169]) t163 (wrap64 (x6_1 + 1))) else (none))) else (some (([] : List ByteArray), 2)))) = some (r1, r2) := H
            have A7 := Aside0.mk A70
            clear A70
            replace H := Option.bind_eq_some_iff.mp H
            obtain ⟨t168, A80, H⟩ := H
            replace H : (if t168 = true then ((catchpitref02_Small.f k1 t167).bind fun t169 => (if x4_1.length < 8796093022208 then (catchpitref07_Codings.l0 k1 (x4_1 ++ [t169]) t163 (wrap64 (x6_1 + 1))) else (none))) else (some (([] : List ByteArray), 2))) = some (r1, r2) := H
            have A8 := Aside0.mk A80
            clear A80
            by_cases c9 : t168 = true
            · subst c9
              have H1 : ((catchpitref02_Small.f k1 t167).bind fun t169 => (if x4_1.length < 8796093022208 then (catchpitref07_Codings.l0 k1 (x4_1 ++ [t169]) t163 (wrap64 (x6_1 + 1))) else (none))) = some (r1, r2) := by rw [if_pos rfl] at H; exact H
              clear H
              have H := H1
              clear H1
              replace H := Option.bind_eq_some_iff.mp H
              obtain ⟨t169, A100, H⟩ := H
              replace H : (if x4_1.length < 8796093022208 then (catchpitref07_Codings.l0 k1 (x4_1 ++ [t169]) t163 (wrap64 (x6_1 + 1))) else (none)) = some (r1, r2) := H
              have A10 := Aside0.mk A100
              clear A100
              by_cases c11 : x4_1.length < 8796093022208
              · rw [if_pos c11] at H
                have LMc11 := Aside0.mk c11
                clear c11
                obtain ⟨y170, hy170⟩ : ∃ y_ : List ByteArray, y_ = (x4_1 ++ [t169]) := ⟨_, rfl⟩
                replace H : (catchpitref07_Codings.l0 k1 y170 t163 (wrap64 (x6_1 + 1))) = some (r1, r2) := by first | (rw [hy170]; with_reducible exact H) | (have H2_ := (Option.bind_some _ _).symm.trans H; rw [hy170]; with_reducible exact H2_) | (have H2_ := (Option.bind_some _ _).symm.trans H; with_reducible exact H2_) | with_reducible exact H | (rw [hy170]; exact H) | exact H
                have Ny170 := Aside0.mk hy170
                clear hy170
                have H' := Aside0.mk H
                clear H
                obtain ⟨Ao12, co12, eo12⟩ := Kd.R_slice HO_5.out
                subst eo12
                have p166 : 0 ≤ (x6_1 : Int) := of_decide_eq_true (by first | (with_reducible assumption) | assumption)
                have q166 : x6_1 < (t163.length : Int) := of_decide_eq_true (by first | (with_reducible assumption) | assumption)
                obtain ⟨ad166, e166, hx166_0⟩ := Kd.at_string (Kd.R_reads' HO_5.out).2.2 x6_1 p166 q166
                cases e166
                replace p166 := eq_true p166
                replace q166 := eq_true q166
                go_wp2_with (first | ((with_reducible refine gate_callee (f := 49) rfl ?_); refine goesL_ (some 23) rfl rfl Tryd.func49 (by kernel_rfl) rfl #[.string (rdOf ByteArray.empty t163 x6_1)] rfl (by (try simp only [List.map_toArray, List.map_cons, List.map_nil]); first | done | rfl | (simp only [List.length_drop, List.length_take]; rfl)) ?_; (with_reducible refine (catchpitref07_word.calls k1 (rdOf ByteArray.empty t163 x6_1) t167 _ ?side1 A7.out).mono ?_); (case side1 => first | exact hG | exact TabOk.drewN hG _ | exact TabOk.drewN (TabOk.drewN hG _) _ | exact TabOk.below hG (by repeat (first | (with_reducible first | exact HB.out | apply below_alloc | apply pw_below_drewN | apply below_drew1) | exact HB.out))); rintro e w13 ⟨rfl, hb⟩; refine ⟨_, rfl, ?_⟩; have n0_ := Aside0.mk (Kd.R_below (by (with_reducible repeat (first | apply Kd.R_alloc | apply Kd.R_drewN | apply Kd.R_drew)); exact HO_4.out) hb); have n1_ := Aside0.mk (Kd.R_below (by (with_reducible repeat (first | apply Kd.R_alloc | apply Kd.R_drewN | apply Kd.R_drew)); exact HO_5.out) hb); have n2_ := Aside0.mk (below_step (by repeat (first | (with_reducible first | exact HB.out | apply below_alloc | apply pw_below_drewN | apply below_drew1) | exact HB.out)) hb); clear HO_4; clear HO_5; clear HB; have HO_4 := n0_; have HO_5 := n1_; have HB := n2_; clear n0_ n1_ n2_; (try clear hb); (try clear hb2); (try clear hk); (try clear hi)) | ((with_reducible refine gate_callee (f := 50) rfl ?_); refine goesL_ (some 25) rfl rfl Tryd.func50 (by kernel_rfl) rfl #[.string t167] rfl (by (try simp only [List.map_toArray, List.map_cons, List.map_nil]); first | done | rfl | (simp only [List.length_drop, List.length_take]; rfl)) ?_; (with_reducible refine (catchpitref02_Token.calls k1 t167 true _ ?side1 A8.out).mono ?_); (case side1 => first | exact hG | exact TabOk.drewN hG _ | exact TabOk.drewN (TabOk.drewN hG _) _ | exact TabOk.below hG (by repeat (first | (with_reducible first | exact HB.out | apply below_alloc | apply pw_below_drewN | apply below_drew1) | exact HB.out))); rintro e w' ⟨rfl, ⟨nd, rfl⟩⟩; refine ⟨_, rfl, ?_⟩) | ((with_reducible refine gate_callee (f := 51) rfl ?_); refine goesL_ (some 29) rfl rfl Tryd.func51 (by kernel_rfl) rfl #[.string t167] rfl (by (try simp only [List.map_toArray, List.map_cons, List.map_nil]); first | done | rfl | (simp only [List.length_drop, List.length_take]; rfl)) ?_; (with_reducible refine (catchpitref02_Small.calls k1 t167 t169 _ ?side1 A10.out).mono ?_); (case side1 => first | exact hG | exact TabOk.drewN hG _ | exact TabOk.drewN (TabOk.drewN hG _) _ | exact TabOk.below hG (by repeat (first | (with_reducible first | exact HB.out | apply below_alloc | apply pw_below_drewN | apply below_drew1) | exact HB.out))); rintro e w14 ⟨rfl, hb⟩; refine ⟨_, rfl, ?_⟩; have n0_ := Aside0.mk (Kd.R_below (by (with_reducible repeat (first | apply Kd.R_alloc | apply Kd.R_drewN | apply Kd.R_drew)); exact HO_4.out) hb); have n1_ := Aside0.mk (Kd.R_below (by (with_reducible repeat (first | apply Kd.R_alloc | apply Kd.R_drewN | apply Kd.R_drew)); exact HO_5.out) hb); have n2_ := Aside0.mk (below_step (by repeat (first | (with_reducible first | exact HB.out | apply below_alloc | apply pw_below_drewN | apply below_drew1) | exact HB.out)) hb); clear HO_4; clear HO_5; clear HB; have HO_4 := n0_; have HO_5 := n1_; have HB := n2_; clear n0_ n1_ n2_; (try clear hb); (try clear hb2); (try clear hk); (try clear hi)) | ((with_reducible refine gate_builtin (b := .append) (xs := #[.tmp 27, .tmp 30]) rfl ?_); at_builtin; refine Kd.R_append Kd.string (w0 := w) w.heap.size rfl (.tmp 27) (.tmp 30) 40 9 (.string ⟨#[]⟩) 16 rfl Tryd.underlying40 info9 rfl (by decide) (by omega) u4 x4_1 t169 [.string t169] (fun k_ => some k_ ≠ (.slice (some ad166) t163.length co12 : Value).ownBlock) (fun _ => False) rfl rfl ?aP (fun _ hk => hk.elim) ?aF ?aO ?aB ?aS ?aL ?_; (case aP => exact rfl); (case aB => exact (by repeat (first | (with_reducible first | exact HB.out | apply below_alloc | apply pw_below_drewN | apply below_drew1) | exact HB.out))); (case aF => exact (fun k_ hk => Kd.fresh' (Kd.R_lt (by (with_reducible repeat (first | apply Kd.R_alloc | apply Kd.R_drewN | apply Kd.R_drew)); exact HO_5.out)) k_ hk)); (case aO => exact (by (with_reducible repeat (first | apply Kd.R_alloc | apply Kd.R_drewN | apply Kd.R_drew)); exact HO_4.out)); (case aS => exact (below_size (by repeat (first | (with_reducible first | exact HB.out | apply below_alloc | apply pw_below_drewN | apply below_drew1) | exact HB.out)))); (case aL => have := LMc11.out; omega); intro v171 w15 ho hb hg hat; rw [← Ny170.out] at ho; have n0_ := Aside0.mk (Kd.R_after (ok := (fun _ => True)) (by (with_reducible repeat (first | apply Kd.R_alloc | apply Kd.R_drewN | apply Kd.R_drew)); exact Kd.R_mono HO_5.out (fun _ hk => ⟨trivial, hk⟩)) hg hat); have n1_ := Aside0.mk (hb); have n2_ := Aside0.mk (ho); clear HO_5; clear HB; clear HO_4; have HO_5 := n0_; have HB := n1_; have HO172 := n2_; clear n0_ n1_ n2_; clear ho hb hg hat))
                go_roundg k1
                case measure => have := HK1.out; omega
                case rel => exact ⟨(y170), (wrap64 (x6_1 + 1)), (by first | rfl | (simp; done) | (simp [*]; done)), H', ⟨by have := HK1.out; omega⟩, ⟨by (with_reducible repeat (first | apply Kd.R_alloc | apply Kd.R_drewN | apply Kd.R_drew)); exact HO172.out⟩, ⟨by (with_reducible repeat (first | apply Kd.R_alloc | apply Kd.R_drewN | apply Kd.R_drew)); exact Kd.R_mono HO_5.out (fun _ hk => hk.2)⟩, ⟨by repeat (first | (with_reducible first | exact HB.out | apply below_alloc | apply pw_below_drewN | apply below_drew1) | exact HB.out)⟩⟩
              · rw [if_neg c11] at H
                exact absurd H (by simp)
            · replace c9 := Bool.eq_false_iff.mpr c9
              subst c9
              have H1 : (some (([] : List ByteArray), 2)) = some (r1, r2) := by rw [if_neg (show ¬ (false = true) by decide)] at H; exact H
              clear H
              have H := H1
              clear H1
              simp only [Option.some.injEq, Prod.mk.injEq] at H
              obtain ⟨rfl, rfl⟩ := H
              obtain ⟨Ao16, co16, eo16⟩ := Kd.R_slice HO_5.out
              subst eo16
              have p166 : 0 ≤ (x6_1 : Int) := of_decide_eq_true (by first | (with_reducible assumption) | assumption)
              have q166 : x6_1 < (t163.length : Int) := of_decide_eq_true (by first | (with_reducible assumption) | assumption)
              obtain ⟨ad166, e166, hx166_0⟩ := Kd.at_string (Kd.R_reads' HO_5.out).2.2 x6_1 p166 q166
              cases e166
              replace p166 := eq_true p166
              replace q166 := eq_true q166
              go_wp2_with (first | ((with_reducible refine gate_callee (f := 49) rfl ?_); refine goesL_ (some 23) rfl rfl Tryd.func49 (by kernel_rfl) rfl #[.string (rdOf ByteArray.empty t163 x6_1)] rfl (by (try simp only [List.map_toArray, List.map_cons, List.map_nil]); first | done | rfl | (simp only [List.length_drop, List.length_take]; rfl)) ?_; (with_reducible refine (catchpitref07_word.calls k1 (rdOf ByteArray.empty t163 x6_1) t167 _ ?side1 A7.out).mono ?_); (case side1 => first | exact hG | exact TabOk.drewN hG _ | exact TabOk.drewN (TabOk.drewN hG _) _ | exact TabOk.below hG (by repeat (first | (with_reducible first | exact HB.out | apply below_alloc | apply pw_below_drewN | apply below_drew1) | exact HB.out))); rintro e w17 ⟨rfl, hb⟩; refine ⟨_, rfl, ?_⟩; have n0_ := Aside0.mk (Kd.R_below (by (with_reducible repeat (first | apply Kd.R_alloc | apply Kd.R_drewN | apply Kd.R_drew)); exact HO_4.out) hb); have n1_ := Aside0.mk (Kd.R_below (by (with_reducible repeat (first | apply Kd.R_alloc | apply Kd.R_drewN | apply Kd.R_drew)); exact HO_5.out) hb); have n2_ := Aside0.mk (below_step (by repeat (first | (with_reducible first | exact HB.out | apply below_alloc | apply pw_below_drewN | apply below_drew1) | exact HB.out)) hb); clear HO_4; clear HO_5; clear HB; have HO_4 := n0_; have HO_5 := n1_; have HB := n2_; clear n0_ n1_ n2_; (try clear hb); (try clear hb2); (try clear hk); (try clear hi)) | ((with_reducible refine gate_callee (f := 50) rfl ?_); refine goesL_ (some 25) rfl rfl Tryd.func50 (by kernel_rfl) rfl #[.string t167] rfl (by (try simp only [List.map_toArray, List.map_cons, List.map_nil]); first | done | rfl | (simp only [List.length_drop, List.length_take]; rfl)) ?_; (with_reducible refine (catchpitref02_Token.calls k1 t167 false _ ?side1 A8.out).mono ?_); (case side1 => first | exact hG | exact TabOk.drewN hG _ | exact TabOk.drewN (TabOk.drewN hG _) _ | exact TabOk.below hG (by repeat (first | (with_reducible first | exact HB.out | apply below_alloc | apply pw_below_drewN | apply below_drew1) | exact HB.out))); rintro e w' ⟨rfl, ⟨nd, rfl⟩⟩; refine ⟨_, rfl, ?_⟩))
              go_ret2
              exact ⟨_, by first | rfl | (simp [errW_none, errW_some] <;> rfl) | (simp [*, errW_none, errW_some] <;> rfl), by first | exact Kd.R_nil _ _ _ _ _ | exact Kd.N_nil _ _ _ _ _ | exact Kd.V_nil _ _ _ _ _ | exact Kd.Q_nil _ _ _ _ _ | exact Kd.S_nil _ _ _ _ _, by repeat (first | (with_reducible first | exact HB.out | apply below_alloc | apply pw_below_drewN | apply below_drew1) | exact HB.out)⟩
          · rw [if_neg c6] at H
            exact absurd H (by simp)
        · rw [if_neg c5] at H
          have c5b0 : decide (x6_1 < (t163.length : Int)) = false := decide_eq_false c5
          clear c5
          by_cases c18 : (x4_1.length : Int) = 0
          · rw [if_pos c18] at H
            have c18b0 : ((x4_1.length : Int) == 0) = true := beq_iff_eq.mpr c18
            have c18b1 : ((x4_1.length : Int) != 0) = false := bne_eq_false_iff_eq.mpr c18
            clear c18
            simp only [Option.some.injEq, Prod.mk.injEq] at H
            obtain ⟨rfl, rfl⟩ := H
            obtain ⟨Ao19, co19, eo19⟩ := Kd.R_slice HO_5.out
            subst eo19
            obtain ⟨Ao20, co20, eo20⟩ := Kd.R_slice HO_4.out
            subst eo20
            go_wp2
            go_ret2
            exact ⟨_, by first | rfl | (simp [errW_none, errW_some] <;> rfl) | (simp [*, errW_none, errW_some] <;> rfl), by first | exact Kd.R_nil _ _ _ _ _ | exact Kd.N_nil _ _ _ _ _ | exact Kd.V_nil _ _ _ _ _ | exact Kd.Q_nil _ _ _ _ _ | exact Kd.S_nil _ _ _ _ _, by repeat (first | (with_reducible first | exact HB.out | apply below_alloc | apply pw_below_drewN | apply below_drew1) | exact HB.out)⟩
          · rw [if_neg c18] at H
            have c18b0 : ((x4_1.length : Int) == 0) = false := beq_eq_false_iff_ne.mpr c18
            have c18b1 : ((x4_1.length : Int) != 0) = true := bne_iff_ne.mpr c18
            have c18b2 : ¬ (x4_1 = []) := fun h_ => c18 (by rw [h_]; rfl)
            simp only [Option.some.injEq, Prod.mk.injEq] at H
            obtain ⟨rfl, rfl⟩ := H
            obtain ⟨Ao21, co21, eo21⟩ := Kd.R_slice HO_5.out
            subst eo21
            obtain ⟨Ao22, co22, eo22⟩ := Kd.R_slice HO_4.out
            subst eo22
            go_wp2
            go_ret2
            exact ⟨_, by first | rfl | (simp [errW_none, errW_some] <;> rfl) | (simp [*, errW_none, errW_some] <;> rfl), by (with_reducible repeat (first | apply Kd.R_alloc | apply Kd.R_drewN | apply Kd.R_drew)); exact Kd.R_mono HO_4.out (fun _ hk => trivial), by repeat (first | (with_reducible first | exact HB.out | apply below_alloc | apply pw_below_drewN | apply below_drew1) | exact HB.out)⟩
def catchpitlaw07_ListCodings.f (k : Nat) (l0 : List ByteArray) : Option (Bool) := (catchpitlaw07_wakes.f k).bind fun t173 => (if t173 = true then ((catchpitlaw07_long.f k l0).bind fun t174 => (if t174 = true then (some true) else ((list_Codings.f l0).bind fun bt175 => ((catchpitref07_Codings.f k l0).bind fun bt179 => ((catchpitref05_Texts.f k bt175.1 bt179.1).bind fun t183 => (if t183 = true then (some (bt175.2 == bt179.2)) else (some false))))))) else (some false))
theorem catchpitlaw07_ListCodings.mono : ∀ a0 k, LeO (catchpitlaw07_ListCodings.f k a0) (catchpitlaw07_ListCodings.f (k + 1) a0) := by
  intro a0 k
  unfold catchpitlaw07_ListCodings.f
  repeat' first
      | (with_reducible exact catchpitlaw07_long.mono _ _)
      | (with_reducible exact catchpitlaw07_wakes.mono _)
      | (with_reducible exact catchpitref05_Texts.mono _ _ _)
      | (with_reducible exact catchpitref07_Codings.mono _ _)
      | (with_reducible exact LeO.refl _)
      | (with_reducible exact LeO.none _)
      | (with_reducible refine LeO.ite ?_ ?_)
      | (with_reducible refine LeO.bind ?_ (fun _ => ?_))
      | exact catchpitlaw07_long.mono _ _
      | exact catchpitlaw07_wakes.mono _
      | exact catchpitref05_Texts.mono _ _ _
      | exact catchpitref07_Codings.mono _ _
      | exact LeO.none _
      | refine LeO.ite ?_ ?_
      | refine LeO.bind ?_ (fun _ => ?_)
set_option maxHeartbeats 8000000 in
set_option maxRecDepth 100000 in
theorem catchpitlaw07_ListCodings.calls (k : Nat) (A0 : Option Addr) (c0 : Nat) (l0 : List ByteArray) (r : Bool) (w : World) (hr0 : Kd.C Kd.string w A0 l0.length l0) (hc0 : l0.length ≤ c0) (hG : TabOk w) (h : catchpitlaw07_ListCodings.f k l0 = some r) :
    Calls Tryd.prog 9 #[.slice A0 l0.length c0] w fun e w' => e = .returned (.bool r) ∧ Below w.heap.size w w' := by
  have HR0 := Aside0.mk hr0
  have HC0 := Aside0.mk hc0
  clear hr0 hc0
  have HB := Aside0.mk (Below.refl w.heap.size w)
  have H : ((catchpitlaw07_wakes.f k).bind fun t173 => (if t173 = true then ((catchpitlaw07_long.f k l0).bind fun t174 => (if t174 = true then (some true) else ((list_Codings.f l0).bind fun bt175 => ((catchpitref07_Codings.f k l0).bind fun bt179 => ((catchpitref05_Texts.f k bt175.1 bt179.1).bind fun t183 => (if t183 = true then (some (bt175.2 == bt179.2)) else (some false))))))) else (some false))) = some r := h
  clear h
  replace H := Option.bind_eq_some_iff.mp H
  obtain ⟨t173, A20, H⟩ := H
  replace H : (if t173 = true then ((catchpitlaw07_long.f k l0).bind fun t174 => (if t174 = true then (some true) else ((list_Codings.f l0).bind fun bt175 => ((catchpitref07_Codings.f k l0).bind fun bt179 => ((catchpitref05_Texts.f k bt175.1 bt179.1).bind fun t183 => (if t183 = true then (some (bt175.2 == bt179.2)) else (some false))))))) else (some false)) = some r := H
  have A2 := Aside0.mk A20
  clear A20
  by_cases c3 : t173 = true
  · subst c3
    have H1 : ((catchpitlaw07_long.f k l0).bind fun t174 => (if t174 = true then (some true) else ((list_Codings.f l0).bind fun bt175 => ((catchpitref07_Codings.f k l0).bind fun bt179 => ((catchpitref05_Texts.f k bt175.1 bt179.1).bind fun t183 => (if t183 = true then (some (bt175.2 == bt179.2)) else (some false))))))) = some r := by rw [if_pos rfl] at H; exact H
    clear H
    have H := H1
    clear H1
    replace H := Option.bind_eq_some_iff.mp H
    obtain ⟨t174, A40, H⟩ := H
    replace H : (if t174 = true then (some true) else ((list_Codings.f l0).bind fun bt175 => ((catchpitref07_Codings.f k l0).bind fun bt179 => ((catchpitref05_Texts.f k bt175.1 bt179.1).bind fun t183 => (if t183 = true then (some (bt175.2 == bt179.2)) else (some false)))))) = some r := H
    have A4 := Aside0.mk A40
    clear A40
    by_cases c5 : t174 = true
    · subst c5
      have H1 : (some true) = some r := by rw [if_pos rfl] at H; exact H
      clear H
      have H := H1
      clear H1
      obtain rfl := Option.some.inj H
      go_enter Tryd.func9, Tryd.ntmps9
      go_wp2_with (first | ((with_reducible refine gate_callee (f := 25) rfl ?_); refine goesL_ (some 7) rfl rfl Tryd.func25 (by kernel_rfl) rfl #[] rfl (by (try simp only [List.map_toArray, List.map_cons, List.map_nil]); first | done | rfl | (simp only [List.length_drop, List.length_take]; rfl)) ?_; (with_reducible refine (catchpitlaw07_wakes.calls k  true _ ?side1 A2.out).mono ?_); (case side1 => first | exact hG | exact TabOk.drewN hG _ | exact TabOk.drewN (TabOk.drewN hG _) _ | exact TabOk.below hG (by repeat (first | (with_reducible first | exact HB.out | apply below_alloc | apply pw_below_drewN | apply below_drew1) | exact HB.out))); rintro e w6 ⟨rfl, hb⟩; refine ⟨_, rfl, ?_⟩; have n0_ := Aside0.mk (below_step (by repeat (first | (with_reducible first | exact HB.out | apply below_alloc | apply pw_below_drewN | apply below_drew1) | exact HB.out)) hb); clear HB; have HB := n0_; clear n0_; (try clear hb); (try clear hb2); (try clear hk); (try clear hi)) | ((with_reducible refine gate_callee (f := 26) rfl ?_); refine goesL_ (some 10) rfl rfl Tryd.func26 (by kernel_rfl) rfl #[.slice A0 l0.length c0] rfl (by (try simp only [List.map_toArray, List.map_cons, List.map_nil]); first | done | rfl | (simp only [List.length_drop, List.length_take]; rfl)) ?_; (with_reducible refine (catchpitlaw07_long.calls k _ _ l0 true _ ?side1 ?side2 ?side3 A4.out).mono ?_); (case side1 => repeat (first | exact (Kd.C_below HR0.out HB.out) | (with_reducible refine Kd.C_alloc ?_ _) | (with_reducible refine Kd.C_drewN ?_ _) | (with_reducible refine Kd.C_drew ?_))); (case side2 => exact HC0.out); (case side3 => first | exact hG | exact TabOk.drewN hG _ | exact TabOk.drewN (TabOk.drewN hG _) _ | exact TabOk.below hG (by repeat (first | (with_reducible first | exact HB.out | apply below_alloc | apply pw_below_drewN | apply below_drew1) | exact HB.out))); rintro e w' ⟨rfl, ⟨nd, rfl⟩⟩; refine ⟨_, rfl, ?_⟩))
      go_ret
      exact ⟨by first | rfl | (simp [errW_none, errW_some] <;> rfl) | (simp [*, errW_none, errW_some] <;> rfl), by repeat (first | (with_reducible first | exact HB.out | apply below_alloc | apply pw_below_drewN | apply below_drew1) | exact HB.out)⟩
    · replace c5 := Bool.eq_false_iff.mpr c5
      subst c5
      have H1 : ((list_Codings.f l0).bind fun bt175 => ((catchpitref07_Codings.f k l0).bind fun bt179 => ((catchpitref05_Texts.f k bt175.1 bt179.1).bind fun t183 => (if t183 = true then (some (bt175.2 == bt179.2)) else (some false))))) = some r := by rw [if_neg (show ¬ (false = true) by decide)] at H; exact H
      clear H
      have H := H1
      clear H1
      replace H := Option.bind_eq_some_iff.mp H
      obtain ⟨⟨t175, t176⟩, A70, H⟩ := H
      replace H : ((catchpitref07_Codings.f k l0).bind fun bt179 => ((catchpitref05_Texts.f k t175 bt179.1).bind fun t183 => (if t183 = true then (some (t176 == bt179.2)) else (some false)))) = some r := H
      have A7 := Aside0.mk A70
      clear A70
      replace H := Option.bind_eq_some_iff.mp H
      obtain ⟨⟨t179, t180⟩, A80, H⟩ := H
      replace H : ((catchpitref05_Texts.f k t175 t179).bind fun t183 => (if t183 = true then (some (t176 == t180)) else (some false))) = some r := H
      have A8 := Aside0.mk A80
      clear A80
      replace H := Option.bind_eq_some_iff.mp H
      obtain ⟨t183, A90, H⟩ := H
      replace H : (if t183 = true then (some (t176 == t180)) else (some false)) = some r := H
      have A9 := Aside0.mk A90
      clear A90
      by_cases c10 : t183 = true
      · subst c10
        have H1 : (some (t176 == t180)) = some r := by rw [if_pos rfl] at H; exact H
        clear H
        have H := H1
        clear H1
        obtain rfl := Option.some.inj H
        go_enter Tryd.func9, Tryd.ntmps9
        go_wp2_with (first | ((with_reducible refine gate_callee (f := 25) rfl ?_); refine goesL_ (some 7) rfl rfl Tryd.func25 (by kernel_rfl) rfl #[] rfl (by (try simp only [List.map_toArray, List.map_cons, List.map_nil]); first | done | rfl | (simp only [List.length_drop, List.length_take]; rfl)) ?_; (with_reducible refine (catchpitlaw07_wakes.calls k  true _ ?side1 A2.out).mono ?_); (case side1 => first | exact hG | exact TabOk.drewN hG _ | exact TabOk.drewN (TabOk.drewN hG _) _ | exact TabOk.below hG (by repeat (first | (with_reducible first | exact HB.out | apply below_alloc | apply pw_below_drewN | apply below_drew1) | exact HB.out))); rintro e w11 ⟨rfl, hb⟩; refine ⟨_, rfl, ?_⟩; have n0_ := Aside0.mk (below_step (by repeat (first | (with_reducible first | exact HB.out | apply below_alloc | apply pw_below_drewN | apply below_drew1) | exact HB.out)) hb); clear HB; have HB := n0_; clear n0_; (try clear hb); (try clear hb2); (try clear hk); (try clear hi)) | ((with_reducible refine gate_callee (f := 26) rfl ?_); refine goesL_ (some 10) rfl rfl Tryd.func26 (by kernel_rfl) rfl #[.slice A0 l0.length c0] rfl (by (try simp only [List.map_toArray, List.map_cons, List.map_nil]); first | done | rfl | (simp only [List.length_drop, List.length_take]; rfl)) ?_; (with_reducible refine (catchpitlaw07_long.calls k _ _ l0 false _ ?side1 ?side2 ?side3 A4.out).mono ?_); (case side1 => repeat (first | exact (Kd.C_below HR0.out HB.out) | (with_reducible refine Kd.C_alloc ?_ _) | (with_reducible refine Kd.C_drewN ?_ _) | (with_reducible refine Kd.C_drew ?_))); (case side2 => exact HC0.out); (case side3 => first | exact hG | exact TabOk.drewN hG _ | exact TabOk.drewN (TabOk.drewN hG _) _ | exact TabOk.below hG (by repeat (first | (with_reducible first | exact HB.out | apply below_alloc | apply pw_below_drewN | apply below_drew1) | exact HB.out))); rintro e w' ⟨rfl, ⟨nd, rfl⟩⟩; refine ⟨_, rfl, ?_⟩) | ((with_reducible refine gate_callee (f := 31) rfl ?_); refine goesL_ (some 13) rfl rfl Tryd.func31 (by kernel_rfl) rfl #[.slice A0 l0.length c0] rfl (by (try simp only [List.map_toArray, List.map_cons, List.map_nil]); first | done | rfl | (simp only [List.length_drop, List.length_take]; rfl)) ?_; (with_reducible refine (list_Codings.calls _ _ l0 t175 t176 _ ?side1 ?side2 ?side3 A7.out).mono ?_); (case side1 => repeat (first | exact (Kd.C_below HR0.out (by repeat (first | (with_reducible first | exact HB.out | apply below_alloc | apply pw_below_drewN | apply below_drew1) | exact HB.out))) | (with_reducible refine Kd.C_alloc ?_ _) | (with_reducible refine Kd.C_drewN ?_ _) | (with_reducible refine Kd.C_drew ?_))); (case side2 => exact HC0.out); (case side3 => first | exact hG | exact TabOk.drewN hG _ | exact TabOk.drewN (TabOk.drewN hG _) _ | exact TabOk.below hG (by repeat (first | (with_reducible first | exact HB.out | apply below_alloc | apply pw_below_drewN | apply below_drew1) | exact HB.out))); rintro e w12 ⟨v177, rfl, ho0, hb⟩; refine ⟨_, rfl, ?_⟩; have n0_ := Aside0.mk (Kd.R_lower ho0 (below_size (by repeat (first | (with_reducible first | exact HB.out | apply below_alloc | apply pw_below_drewN | apply below_drew1) | exact HB.out)))); have n1_ := Aside0.mk (below_step (by repeat (first | (with_reducible first | exact HB.out | apply below_alloc | apply pw_below_drewN | apply below_drew1) | exact HB.out)) hb); clear HB; have HO178 := n0_; have HB := n1_; clear n0_ n1_; (try clear hb); (try clear hb2); (try clear hk); (try clear hi); (try clear ho0)) | ((with_reducible refine gate_callee (f := 32) rfl ?_); refine goesL_ (some 18) rfl rfl Tryd.func32 (by kernel_rfl) rfl #[.slice A0 l0.length c0] rfl (by (try simp only [List.map_toArray, List.map_cons, List.map_nil]); first | done | rfl | (simp only [List.length_drop, List.length_take]; rfl)) ?_; (with_reducible refine (catchpitref07_Codings.calls k _ _ l0 t179 t180 _ ?side1 ?side2 ?side3 A8.out).mono ?_); (case side1 => repeat (first | exact (Kd.C_below HR0.out HB.out) | (with_reducible refine Kd.C_alloc ?_ _) | (with_reducible refine Kd.C_drewN ?_ _) | (with_reducible refine Kd.C_drew ?_))); (case side2 => exact HC0.out); (case side3 => first | exact hG | exact TabOk.drewN hG _ | exact TabOk.drewN (TabOk.drewN hG _) _ | exact TabOk.below hG (by repeat (first | (with_reducible first | exact HB.out | apply below_alloc | apply pw_below_drewN | apply below_drew1) | exact HB.out))); rintro e w13 ⟨v181, rfl, ho0, hb⟩; refine ⟨_, rfl, ?_⟩; have n0_ := Aside0.mk (Kd.R_elder' (by (with_reducible repeat (first | apply Kd.R_alloc | apply Kd.R_drewN | apply Kd.R_drew)); exact HO178.out) (Kd.R_base ho0) hb); have n1_ := Aside0.mk (Kd.R_lower (Kd.R_new' ho0 (Kd.R_lt (by (with_reducible repeat (first | apply Kd.R_alloc | apply Kd.R_drewN | apply Kd.R_drew)); exact HO178.out))) (below_size (by repeat (first | (with_reducible first | exact HB.out | apply below_alloc | apply pw_below_drewN | apply below_drew1) | exact HB.out)))); have n2_ := Aside0.mk (below_step (by repeat (first | (with_reducible first | exact HB.out | apply below_alloc | apply pw_below_drewN | apply below_drew1) | exact HB.out)) hb); clear HO178; clear HB; have HO178 := n0_; have HO182 := n1_; have HB := n2_; clear n0_ n1_ n2_; (try clear hb); (try clear hb2); (try clear hk); (try clear hi); (try clear ho0); obtain ⟨Ao14, co14, eo14⟩ := Kd.R_slice HO178.out; subst eo14; obtain ⟨Ao15, co15, eo15⟩ := Kd.R_slice HO182.out; subst eo15) | ((with_reducible refine gate_callee (f := 20) rfl ?_); refine goesL_ (some 23) rfl rfl Tryd.func20 (by kernel_rfl) rfl #[.slice Ao14 t175.length co14, .slice Ao15 t179.length co15] rfl (by (try simp only [List.map_toArray, List.map_cons, List.map_nil]); first | done | rfl | (simp only [List.length_drop, List.length_take]; rfl)) ?_; (with_reducible refine (catchpitref05_Texts.calls k _ _ t175 _ _ t179 true _ ?side1 ?side2 ?side3 ?side4 ?side5 A9.out).mono ?_); (case side1 => repeat (first | exact (Kd.R_reads' HO178.out).2.2 | (with_reducible refine Kd.C_alloc ?_ _) | (with_reducible refine Kd.C_drewN ?_ _) | (with_reducible refine Kd.C_drew ?_))); (case side2 => exact (Kd.R_reads' HO178.out).2.1); (case side3 => repeat (first | exact (Kd.R_reads' HO182.out).2.2 | (with_reducible refine Kd.C_alloc ?_ _) | (with_reducible refine Kd.C_drewN ?_ _) | (with_reducible refine Kd.C_drew ?_))); (case side4 => exact (Kd.R_reads' HO182.out).2.1); (case side5 => first | exact hG | exact TabOk.drewN hG _ | exact TabOk.drewN (TabOk.drewN hG _) _ | exact TabOk.below hG (by repeat (first | (with_reducible first | exact HB.out | apply below_alloc | apply pw_below_drewN | apply below_drew1) | exact HB.out))); rintro e w' ⟨rfl, ⟨nd, rfl⟩⟩; refine ⟨_, rfl, ?_⟩))
        go_ret
        exact ⟨by first | rfl | (simp [errW_none, errW_some] <;> rfl) | (simp [*, errW_none, errW_some] <;> rfl), by repeat (first | (with_reducible first | exact HB.out | apply below_alloc | apply pw_below_drewN | apply below_drew1) | exact HB.out)⟩
      · replace c10 := Bool.eq_false_iff.mpr c10
        subst c10
        have H1 : (some false) = some r := by rw [if_neg (show ¬ (false = true) by decide)] at H; exact H
        clear H
        have H := H1
        clear H1
        obtain rfl := Option.some.inj H
        go_enter Tryd.func9, Tryd.ntmps9
        go_wp2_with (first | ((with_reducible refine gate_callee (f := 25) rfl ?_); refine goesL_ (some 7) rfl rfl Tryd.func25 (by kernel_rfl) rfl #[] rfl (by (try simp only [List.map_toArray, List.map_cons, List.map_nil]); first | done | rfl | (simp only [List.length_drop, List.length_take]; rfl)) ?_; (with_reducible refine (catchpitlaw07_wakes.calls k  true _ ?side1 A2.out).mono ?_); (case side1 => first | exact hG | exact TabOk.drewN hG _ | exact TabOk.drewN (TabOk.drewN hG _) _ | exact TabOk.below hG (by repeat (first | (with_reducible first | exact HB.out | apply below_alloc | apply pw_below_drewN | apply below_drew1) | exact HB.out))); rintro e w16 ⟨rfl, hb⟩; refine ⟨_, rfl, ?_⟩; have n0_ := Aside0.mk (below_step (by repeat (first | (with_reducible first | exact HB.out | apply below_alloc | apply pw_below_drewN | apply below_drew1) | exact HB.out)) hb); clear HB; have HB := n0_; clear n0_; (try clear hb); (try clear hb2); (try clear hk); (try clear hi)) | ((with_reducible refine gate_callee (f := 26) rfl ?_); refine goesL_ (some 10) rfl rfl Tryd.func26 (by kernel_rfl) rfl #[.slice A0 l0.length c0] rfl (by (try simp only [List.map_toArray, List.map_cons, List.map_nil]); first | done | rfl | (simp only [List.length_drop, List.length_take]; rfl)) ?_; (with_reducible refine (catchpitlaw07_long.calls k _ _ l0 false _ ?side1 ?side2 ?side3 A4.out).mono ?_); (case side1 => repeat (first | exact (Kd.C_below HR0.out HB.out) | (with_reducible refine Kd.C_alloc ?_ _) | (with_reducible refine Kd.C_drewN ?_ _) | (with_reducible refine Kd.C_drew ?_))); (case side2 => exact HC0.out); (case side3 => first | exact hG | exact TabOk.drewN hG _ | exact TabOk.drewN (TabOk.drewN hG _) _ | exact TabOk.below hG (by repeat (first | (with_reducible first | exact HB.out | apply below_alloc | apply pw_below_drewN | apply below_drew1) | exact HB.out))); rintro e w' ⟨rfl, ⟨nd, rfl⟩⟩; refine ⟨_, rfl, ?_⟩) | ((with_reducible refine gate_callee (f := 31) rfl ?_); refine goesL_ (some 13) rfl rfl Tryd.func31 (by kernel_rfl) rfl #[.slice A0 l0.length c0] rfl (by (try simp only [List.map_toArray, List.map_cons, List.map_nil]); first | done | rfl | (simp only [List.length_drop, List.length_take]; rfl)) ?_; (with_reducible refine (list_Codings.calls _ _ l0 t175 t176 _ ?side1 ?side2 ?side3 A7.out).mono ?_); (case side1 => repeat (first | exact (Kd.C_below HR0.out (by repeat (first | (with_reducible first | exact HB.out | apply below_alloc | apply pw_below_drewN | apply below_drew1) | exact HB.out))) | (with_reducible refine Kd.C_alloc ?_ _) | (with_reducible refine Kd.C_drewN ?_ _) | (with_reducible refine Kd.C_drew ?_))); (case side2 => exact HC0.out); (case side3 => first | exact hG | exact TabOk.drewN hG _ | exact TabOk.drewN (TabOk.drewN hG _) _ | exact TabOk.below hG (by repeat (first | (with_reducible first | exact HB.out | apply below_alloc | apply pw_below_drewN | apply below_drew1) | exact HB.out))); rintro e w17 ⟨v177, rfl, ho0, hb⟩; refine ⟨_, rfl, ?_⟩; have n0_ := Aside0.mk (Kd.R_lower ho0 (below_size (by repeat (first | (with_reducible first | exact HB.out | apply below_alloc | apply pw_below_drewN | apply below_drew1) | exact HB.out)))); have n1_ := Aside0.mk (below_step (by repeat (first | (with_reducible first | exact HB.out | apply below_alloc | apply pw_below_drewN | apply below_drew1) | exact HB.out)) hb); clear HB; have HO178 := n0_; have HB := n1_; clear n0_ n1_; (try clear hb); (try clear hb2); (try clear hk); (try clear hi); (try clear ho0)) | ((with_reducible refine gate_callee (f := 32) rfl ?_); refine goesL_ (some 18) rfl rfl Tryd.func32 (by kernel_rfl) rfl #[.slice A0 l0.length c0] rfl (by (try simp only [List.map_toArray, List.map_cons, List.map_nil]); first | done | rfl | (simp only [List.length_drop, List.length_take]; rfl)) ?_; (with_reducible refine (catchpitref07_Codings.calls k _ _ l0 t179 t180 _ ?side1 ?side2 ?side3 A8.out).mono ?_); (case side1 => repeat (first | exact (Kd.C_below HR0.out HB.out) | (with_reducible refine Kd.C_alloc ?_ _) | (with_reducible refine Kd.C_drewN ?_ _) | (with_reducible refine Kd.C_drew ?_))); (case side2 => exact HC0.out); (case side3 => first | exact hG | exact TabOk.drewN hG _ | exact TabOk.drewN (TabOk.drewN hG _) _ | exact TabOk.below hG (by repeat (first | (with_reducible first | exact HB.out | apply below_alloc | apply pw_below_drewN | apply below_drew1) | exact HB.out))); rintro e w18 ⟨v181, rfl, ho0, hb⟩; refine ⟨_, rfl, ?_⟩; have n0_ := Aside0.mk (Kd.R_elder' (by (with_reducible repeat (first | apply Kd.R_alloc | apply Kd.R_drewN | apply Kd.R_drew)); exact HO178.out) (Kd.R_base ho0) hb); have n1_ := Aside0.mk (Kd.R_lower (Kd.R_new' ho0 (Kd.R_lt (by (with_reducible repeat (first | apply Kd.R_alloc | apply Kd.R_drewN | apply Kd.R_drew)); exact HO178.out))) (below_size (by repeat (first | (with_reducible first | exact HB.out | apply below_alloc | apply pw_below_drewN | apply below_drew1) | exact HB.out)))); have n2_ := Aside0.mk (below_step (by repeat (first | (with_reducible first | exact HB.out | apply below_alloc | apply pw_below_drewN | apply below_drew1) | exact HB.out)) hb); clear HO178; clear HB; have HO178 := n0_; have HO182 := n1_; have HB := n2_; clear n0_ n1_ n2_; (try clear hb); (try clear hb2); (try clear hk); (try clear hi); (try clear ho0); obtain ⟨Ao19, co19, eo19⟩ := Kd.R_slice HO178.out; subst eo19; obtain ⟨Ao20, co20, eo20⟩ := Kd.R_slice HO182.out; subst eo20) | ((with_reducible refine gate_callee (f := 20) rfl ?_); refine goesL_ (some 23) rfl rfl Tryd.func20 (by kernel_rfl) rfl #[.slice Ao19 t175.length co19, .slice Ao20 t179.length co20] rfl (by (try simp only [List.map_toArray, List.map_cons, List.map_nil]); first | done | rfl | (simp only [List.length_drop, List.length_take]; rfl)) ?_; (with_reducible refine (catchpitref05_Texts.calls k _ _ t175 _ _ t179 false _ ?side1 ?side2 ?side3 ?side4 ?side5 A9.out).mono ?_); (case side1 => repeat (first | exact (Kd.R_reads' HO178.out).2.2 | (with_reducible refine Kd.C_alloc ?_ _) | (with_reducible refine Kd.C_drewN ?_ _) | (with_reducible refine Kd.C_drew ?_))); (case side2 => exact (Kd.R_reads' HO178.out).2.1); (case side3 => repeat (first | exact (Kd.R_reads' HO182.out).2.2 | (with_reducible refine Kd.C_alloc ?_ _) | (with_reducible refine Kd.C_drewN ?_ _) | (with_reducible refine Kd.C_drew ?_))); (case side4 => exact (Kd.R_reads' HO182.out).2.1); (case side5 => first | exact hG | exact TabOk.drewN hG _ | exact TabOk.drewN (TabOk.drewN hG _) _ | exact TabOk.below hG (by repeat (first | (with_reducible first | exact HB.out | apply below_alloc | apply pw_below_drewN | apply below_drew1) | exact HB.out))); rintro e w' ⟨rfl, ⟨nd, rfl⟩⟩; refine ⟨_, rfl, ?_⟩))
        go_ret
        exact ⟨by first | rfl | (simp [errW_none, errW_some] <;> rfl) | (simp [*, errW_none, errW_some] <;> rfl), by repeat (first | (with_reducible first | exact HB.out | apply below_alloc | apply pw_below_drewN | apply below_drew1) | exact HB.out)⟩
  · replace c3 := Bool.eq_false_iff.mpr c3
    subst c3
    have H1 : (some false) = some r := by rw [if_neg (show ¬ (false = true) by decide)] at H; exact H
    clear H
    have H := H1
    clear H1
    obtain rfl := Option.some.inj H
    go_enter Tryd.func9, Tryd.ntmps9
    go_wp2_with (first | ((with_reducible refine gate_callee (f := 25) rfl ?_); refine goesL_ (some 7) rfl rfl Tryd.func25 (by kernel_rfl) rfl #[] rfl (by (try simp only [List.map_toArray, List.map_cons, List.map_nil]); first | done | rfl | (simp only [List.length_drop, List.length_take]; rfl)) ?_; (with_reducible refine (catchpitlaw07_wakes.calls k  false _ ?side1 A2.out).mono ?_); (case side1 => first | exact hG | exact TabOk.drewN hG _ | exact TabOk.drewN (TabOk.drewN hG _) _ | exact TabOk.below hG (by repeat (first | (with_reducible first | exact HB.out | apply below_alloc | apply pw_below_drewN | apply below_drew1) | exact HB.out))); rintro e w21 ⟨rfl, hb⟩; refine ⟨_, rfl, ?_⟩; have n0_ := Aside0.mk (below_step (by repeat (first | (with_reducible first | exact HB.out | apply below_alloc | apply pw_below_drewN | apply below_drew1) | exact HB.out)) hb); clear HB; have HB := n0_; clear n0_; (try clear hb); (try clear hb2); (try clear hk); (try clear hi)))
    go_ret
    exact ⟨by first | rfl | (simp [errW_none, errW_some] <;> rfl) | (simp [*, errW_none, errW_some] <;> rfl), by repeat (first | (with_reducible first | exact HB.out | apply below_alloc | apply pw_below_drewN | apply below_drew1) | exact HB.out)⟩
end Go.Proofs.YtofegjgiocljlaaDoor.Pr
end
section
namespace Go.Proofs.YtofegjgiocljlaaDoorH
open Go.RowKit Go.Proofs.YtofegjgiocljlaaDoorW.PrintWords Go.Proofs.YtofegjgiocljlaaDoorW.PrintLast Go.Proofs.YtofegjgiocljlaaDoorW.PrintMore
theorem drop_cons {α : Type} (l : List α) (d : α) (i : Nat) (h : i < l.length) : l.drop i = l.getD i d :: l.drop (i + 1) := by
  rw [List.drop_eq_getElem_cons h]
  simp [List.getD_eq_getElem?_getD, h]
theorem wrapN (a b : Nat) (h : a + b < 4611686018427387904) : wrap64 ((a : Int) + (b : Int)) = ((a + b : Nat) : Int) := by unfold wrap64; omega
theorem wrapS (a : Nat) (h : a < 4611686018427387904) : wrap64 ((a : Int) + 1) = ((a + 1 : Nat) : Int) := by unfold wrap64; omega
end Go.Proofs.YtofegjgiocljlaaDoorH
end
section
namespace Go.Proofs.YtofegjgiocljlaaDoorH
open Go.RowKit Go.Proofs.YtofegjgiocljlaaDoorW.PrintWords Go.Proofs.YtofegjgiocljlaaDoorW.PrintLast Go.Proofs.YtofegjgiocljlaaDoorW.PrintMore Go.Proofs.YtofegjgiocljlaaDoor.Pr
theorem ref05_Texts (a : List ByteArray) (hc : a.length ≤ 1000000) : Ev (fun k => catchpitref05_Texts.f k a a) true := by
  have hl0 : ∀ d i k : Nat, i ≤ a.length → a.length - i = d → d < k → catchpitref05_Texts.l0 k a a (i : Int) = some true := by
    intro d
    induction d with
    | zero =>
      intro i k h1 h2 h3
      obtain ⟨k, rfl⟩ : ∃ m, k = m + 1 := ⟨k - 1, by omega⟩
      rw [catchpitref05_Texts.l0, if_neg (by omega)]
    | succ d ih =>
      intro i k h1 h2 h3
      obtain ⟨k, rfl⟩ : ∃ m, k = m + 1 := ⟨k - 1, by omega⟩
      rw [catchpitref05_Texts.l0, if_pos (by omega), if_pos (by omega), if_pos (by omega), if_pos rfl, show wrap64 ((i : Int) + 1) = ((i + 1 : Nat) : Int) by unfold wrap64; omega]
      exact ih (i + 1) k (by omega) (by omega) (by omega)
  refine ⟨a.length + 1, fun k hk => ?_⟩
  show catchpitref05_Texts.f k a a = _
  rw [catchpitref05_Texts.f, if_pos rfl]
  exact hl0 a.length 0 k (by omega) (by omega) (by omega)
end Go.Proofs.YtofegjgiocljlaaDoorH
end
section
namespace Go.Proofs.YtofegjgiocljlaaDoorH
open Go.RowKit Go.Proofs.YtofegjgiocljlaaDoorW.PrintWords Go.Proofs.YtofegjgiocljlaaDoorW.PrintLast Go.Proofs.YtofegjgiocljlaaDoorW.PrintMore Go.Proofs.YtofegjgiocljlaaDoor.Pr
theorem ref02_token (k : Nat) (c : Int) (h0 : 0 ≤ c) (h1 : c ≤ 255) : catchpitref02_token.f (k + 1) c = some (tokI c) := by
  have e : catchpitref02_token.f (k + 1) c = catchpitref02_token.f 1 c := by
    unfold catchpitref02_token.f
    simp only [catchpitref02_token.j0]
  rw [e]
  obtain ⟨n, rfl⟩ := Int.eq_ofNat_of_zero_le h0
  have : ∀ n : Fin 256, catchpitref02_token.f 1 (n.val : Int) = some (tokI (n.val : Int)) := by decide +kernel
  exact this ⟨n, by omega⟩
theorem ref02_blank (c : Int) : catchpitref02_blank.f c = some (blankI c) := by
  unfold catchpitref02_blank.f blankI
  by_cases h : c = 32
  · rw [if_pos h]; subst h; rfl
  · rw [if_neg h, beq_eq_false_iff_ne.2 h, Bool.false_or]
theorem ref02_Token_l0 (s : ByteArray) (hs : s.size ≤ 140737488355328) (d : Nat) : ∀ (k i : Nat), i ≤ s.size → s.size - i = d → d + 1 < k →
    catchpitref02_Token.l0 k s (i : Int) = some (allFrom tokI s i && decide (0 < s.size)) := by
  induction d with
  | zero =>
    intro k i h1 hd hk
    obtain ⟨k, rfl⟩ : ∃ m, k = m + 1 := ⟨k - 1, by omega⟩
    simp only [catchpitref02_Token.l0]
    rw [if_neg (by omega), allFrom_end _ _ _ (by omega), Bool.true_and]
    congr 1
    rw [decide_eq_decide]
    omega
  | succ d ih =>
    intro k i h1 hd hk
    obtain ⟨k, rfl⟩ : ∃ m, k = m + 2 := ⟨k - 2, by omega⟩
    have hb := bt_range s i
    rw [catchpitref02_Token.l0, if_pos (by omega), if_pos (by omega), ref02_token k _ hb.1 hb.2, Option.bind_some, allFrom_step tokI s i (by omega)]
    cases hp : tokI (bt s i) with
    | true =>
      rw [if_pos rfl, wrap_up (by omega) (show (i : Int) < (s.size : Int) by omega) hs, Bool.true_and]
      exact ih (k + 1) (i + 1) (by omega) (by omega) (by omega)
    | false => rfl
theorem ref02_Token (s : ByteArray) (hs : s.size ≤ 140737488355328) : Ev (fun k => catchpitref02_Token.f k s) (tokB s) := by
  refine ⟨s.size + 2, fun k hk => ?_⟩
  show catchpitref02_Token.l0 k s 0 = _
  have := ref02_Token_l0 s hs s.size k 0 (by omega) (by omega) (by omega)
  rw [show ((0 : Nat) : Int) = 0 from rfl] at this
  rw [this, allFrom_zero]
  unfold tokB
  rw [isEmpty_size, Bool.and_comm]
  congr 2
  rw [← decide_not, decide_eq_decide]
  omega
theorem mk_data (s : ByteArray) : (⟨s.data.toList.toArray⟩ : ByteArray) = s := bytes_ext (by simp)
theorem ref02_Trim_l1 (n : Nat) : ∀ (s : ByteArray) (k : Nat), s.size = n → n ≤ 140737488355328 → n < k →
    catchpitref02_Trim.l1 k s = some ⟨(rtrim blankU s.data.toList).toArray⟩ := by
  induction n with
  | zero =>
    intro s k hs hn hk
    obtain ⟨k, rfl⟩ : ∃ m, k = m + 1 := ⟨k - 1, by omega⟩
    rw [catchpitref02_Trim.l1, if_neg (by omega)]
    have hl : s.data.toList = [] := by rw [size_eq_length] at hs; exact List.length_eq_zero_iff.1 hs
    congr 1
    apply bytes_ext
    rw [hl]; rfl
  | succ n ih =>
    intro s k hs hn hk
    obtain ⟨k, rfl⟩ : ∃ m, k = m + 1 := ⟨k - 1, by omega⟩
    obtain ⟨t, c, hl, hb⟩ := last_of s (by omega)
    rw [catchpitref02_Trim.l1, if_pos (by omega), wrap_down (by omega) (by omega), if_pos (by omega), if_pos (by omega), ref02_blank, Option.bind_some, hb, blankU_int]
    rw [hl, rtrim_snoc]
    cases hp : blankU c with
    | true =>
      rw [if_pos rfl, if_pos (by omega), if_pos rfl, show ((s.size : Int) - 1).toNat = s.size - 1 by omega]
      have he : (s.extract 0 (s.size - 1)).data.toList = t := by
        rw [extract_to, hl, size_eq_length, hl]
        simp
      rw [ih _ k (by rw [size_eq_length, he]; have := size_eq_length s; rw [hl] at this; simp at this; omega) (by omega) (by omega), he]
    | false =>
      rw [if_neg (by simp), if_neg (by simp), ← hl, mk_data]
theorem ref02_Trim_l0 (n : Nat) : ∀ (s : ByteArray) (k : Nat), s.size = n → n ≤ 140737488355328 → n + n + 2 < k →
    catchpitref02_Trim.l0 k s = some ⟨(rtrim blankU (s.data.toList.dropWhile blankU)).toArray⟩ := by
  induction n with
  | zero =>
    intro s k hs hn hk
    obtain ⟨k, rfl⟩ : ∃ m, k = m + 2 := ⟨k - 2, by omega⟩
    rw [catchpitref02_Trim.l0, if_neg (by omega), catchpitref02_Trim.j1, ref02_Trim_l1 0 s k hs (by omega) (by omega)]
    have hl : s.data.toList = [] := by rw [size_eq_length] at hs; exact List.length_eq_zero_iff.1 hs
    rw [hl]; rfl
  | succ n ih =>
    intro s k hs hn hk
    obtain ⟨k, rfl⟩ : ∃ m, k = m + 2 := ⟨k - 2, by omega⟩
    obtain ⟨c, t, hl, hb⟩ := first_of s (by omega)
    rw [catchpitref02_Trim.l0, if_pos (by omega), if_pos (by omega), ref02_blank, Option.bind_some, hb, blankU_int, hl]
    cases hp : blankU c with
    | true =>
      rw [if_pos rfl, if_pos (by omega), List.dropWhile_cons_of_pos hp]
      have he : (s.extract 1 s.size).data.toList = t := by rw [extract_from, hl]; rfl
      rw [ih _ (k + 1) (by rw [size_eq_length, he]; have := size_eq_length s; rw [hl] at this; simp at this; omega) (by omega) (by omega), he]
    | false =>
      rw [if_neg (by simp), catchpitref02_Trim.j1, ref02_Trim_l1 (n + 1) s k hs (by omega) (by omega), List.dropWhile_cons_of_neg (by simp [hp]), hl]
theorem ref02_Trim (s : ByteArray) (hs : s.size ≤ 140737488355328) : Ev (fun k => catchpitref02_Trim.f k s) (trimS s) := by
  refine ⟨s.size + s.size + 3, fun k hk => ?_⟩
  show catchpitref02_Trim.l0 k s = _
  rw [ref02_Trim_l0 s.size s k rfl hs (by omega)]
  unfold trimS
  rw [trimL_eq']
theorem ref02_Small_l0 (s : ByteArray) (hs : s.size ≤ 140737488355327) (d : Nat) : ∀ (k i : Nat), i ≤ s.size → s.size - i = d → d < k →
    catchpitref02_Small.l0 k s ((smallL s).take i) (i : Int) = some (smallS s) := by
  induction d with
  | zero =>
    intro k i h1 hd hk
    obtain ⟨k, rfl⟩ : ∃ m, k = m + 1 := ⟨k - 1, by omega⟩
    rw [catchpitref02_Small.l0, if_neg (by omega), List.take_of_length_le (by rw [smallL_length]; omega)]
    rfl
  | succ d ih =>
    intro k i h1 hd hk
    obtain ⟨k, rfl⟩ : ∃ m, k = m + 1 := ⟨k - 1, by omega⟩
    have hb := bt_range s i
    have hlen : ((smallL s).take i).length < 140737488355328 := by rw [List.length_take, smallL_length]; omega
    have hi : i < (smallL s).length := by rw [smallL_length]; omega
    have hst : (smallL s).take (i + 1) = (smallL s).take i ++ [smallI (bt s i)] := by
      rw [List.take_succ_eq_append_getElem hi, ← smallL_at s i (by omega), List.getD_eq_getElem?_getD, List.getElem?_eq_getElem hi]
      rfl
    have hih := ih k (i + 1) (by omega) (by omega) (by omega)
    rw [hst] at hih
    rw [catchpitref02_Small.l0, if_pos (by omega), if_pos (by omega), wrap_up (by omega) (show (i : Int) < (s.size : Int) by omega) (by omega)]
    by_cases h65 : bt s i ≥ 65
    · rw [if_pos h65]
      by_cases h90 : bt s i ≤ 90
      · rw [if_pos h90, if_pos hlen, show (bt s i + 32) % 256 = smallI (bt s i) by unfold smallI; rw [if_pos ⟨h65, h90⟩]; omega]
        exact hih
      · rw [if_neg h90, if_pos hlen, show bt s i = smallI (bt s i) by unfold smallI; rw [if_neg (by omega)]] 
        exact hih
    · rw [if_neg h65, if_pos hlen, show bt s i = smallI (bt s i) by unfold smallI; rw [if_neg (by omega)]]
      exact hih
theorem ref02_Small (s : ByteArray) (hs : s.size ≤ 140737488355327) : Ev (fun k => catchpitref02_Small.f k s) (smallS s) := by
  refine ⟨s.size + 1, fun k hk => ?_⟩
  have := ref02_Small_l0 s hs s.size k 0 (by omega) (by omega) (by omega)
  exact this
end Go.Proofs.YtofegjgiocljlaaDoorH
end
section
namespace Go.Proofs.YtofegjgiocljlaaDoorH
open Go.RowKit Go.Proofs.YtofegjgiocljlaaDoorW.PrintWords Go.Proofs.YtofegjgiocljlaaDoorW.PrintLast Go.Proofs.YtofegjgiocljlaaDoorW.PrintMore Go.Proofs.YtofegjgiocljlaaDoor.Pr
theorem ev_succ {α : Type} {g : Nat → Option α} {r : α} (h : Ev (fun k => g (k + 1)) r) : Ev g r := by
  obtain ⟨K, hK⟩ := h
  refine ⟨K + 1, fun k hk => ?_⟩
  obtain ⟨k, rfl⟩ : ∃ m, k = m + 1 := ⟨k - 1, by omega⟩
  exact hK k (by omega)
theorem ev_bind {α β : Type} {g : Nat → Option α} {h : Nat → α → Option β} {x : α} {r : β} (h1 : Ev g x) (h2 : Ev (fun k => h k x) r) : Ev (fun k => (g k).bind (h k)) r := by
  obtain ⟨K1, h1⟩ := h1
  obtain ⟨K2, h2⟩ := h2
  exact ⟨K1 + K2, fun k hk => by show (g k).bind (h k) = _; rw [h1 k (by omega), Option.bind_some]; exact h2 k (by omega)⟩
theorem ev_as {α : Type} {g g' : Nat → Option α} {r : α} (h : Ev g r) (e : ∀ k, g' k = g k) : Ev g' r := by
  obtain ⟨K, hK⟩ := h
  exact ⟨K, fun k hk => (e k).trans (hK k hk)⟩
theorem ev_some {α : Type} (r : α) : Ev (fun _ => some r) r := ⟨0, fun _ _ => rfl⟩
def mkB (l : List UInt8) : ByteArray := ⟨l.toArray⟩
def partsC (c : UInt8) (s : ByteArray) : List ByteArray := (splitL c s.data.toList).map mkB
theorem partsB_eq (s : ByteArray) : partsB s = partsC 44 s := rfl
theorem splitL_no (c : UInt8) (p : List UInt8) (h : ∀ x ∈ p, x ≠ c) : splitL c p = [p] :=
  splitL_none c p (List.findIdx_eq_length.2 fun x hx => by simpa using h x hx)
theorem extract_mk (s : ByteArray) (a i : Nat) (p : List UInt8) (h1 : a ≤ i) (h2 : i ≤ s.size) (hp : s.data.toList.drop a = p ++ s.data.toList.drop i) : s.extract a i = mkB p := by
  apply bytes_ext
  rw [extract_list, hp]
  have hl : p.length = i - a := by
    have := congrArg List.length hp
    rw [List.length_append, List.length_drop, List.length_drop, data_length] at this
    omega
  show _ = p
  rw [← hl, List.take_left]
theorem ref07_cut_l0 (s : ByteArray) (c : UInt8) (hs : s.size ≤ 1000000000) : ∀ (d i a : Nat) (p : List UInt8) (acc : List ByteArray), a ≤ i → i ≤ s.size → s.size - i = d → acc.length ≤ i →
    s.data.toList.drop a = p ++ s.data.toList.drop i → (∀ x ∈ p, x ≠ c) →
    Ev (fun k => catchpitref07_cut.l0 k s ((c.toNat : Nat) : Int) acc (a : Int) (i : Int)) (acc ++ (splitL c (s.data.toList.drop a)).map mkB) := by
  intro d
  induction d with
  | zero =>
    intro i a p acc h1 h2 h3 h4 hp hc
    obtain rfl : i = s.size := by omega
    have he := extract_mk s a s.size p h1 (Nat.le_refl _) hp
    have hz : s.data.toList.drop s.size = [] := List.drop_eq_nil_of_le (by rw [data_length]; exact Nat.le_refl _)
    rw [hz, List.append_nil] at hp
    refine ev_succ (ev_succ ⟨0, fun k _ => ?_⟩)
    show catchpitref07_cut.l0 (k + 1 + 1) s _ acc _ _ = _
    rw [catchpitref07_cut.l0, if_pos (by omega), if_pos rfl, if_pos (by omega), if_pos (by omega), if_pos (by omega), show wrap64 ((s.size : Int) + 1) = ((s.size + 1 : Nat) : Int) by unfold wrap64; omega, catchpitref07_cut.l0, if_neg (by omega), Int.toNat_natCast, Int.toNat_natCast, he, hp, splitL_no c p hc]
    rfl
  | succ d ih =>
    intro i a p acc h1 h2 h3 h4 hp hc
    obtain ⟨b, hb, hbt⟩ := drop_byte s i (by omega)
    have hw : wrap64 ((i : Int) + 1) = ((i + 1 : Nat) : Int) := by unfold wrap64; omega
    by_cases hbc : b = c
    · subst hbc
      have he := extract_mk s a i p h1 (by omega) hp
      have key := ih (i + 1) (i + 1) [] (acc ++ [mkB p]) (Nat.le_refl _) (by omega) (by omega) (by rw [List.length_append, List.length_singleton]; omega) (by simp) (by simp)
      rw [show acc ++ (splitL b (s.data.toList.drop a)).map mkB = acc ++ [mkB p] ++ (splitL b (s.data.toList.drop (i + 1))).map mkB by
        rw [hp, hb, splitL_append, splitL_no b p hc]; simp]
      refine ev_succ (ev_as key fun k => ?_)
      rw [catchpitref07_cut.l0, if_pos (by omega), if_neg (by omega), if_pos (by omega), if_pos (by omega), if_pos hbt, if_pos (by omega), if_pos (by omega), if_pos (by omega), hw, Int.toNat_natCast, Int.toNat_natCast, he]
    · have key := ih (i + 1) a (p ++ [b]) acc (by omega) (by omega) (by omega) (by omega) (by rw [hp, hb]; simp) (fun x hx => by
        rcases List.mem_append.1 hx with h | h
        · exact hc x h
        · rw [List.mem_singleton.1 h]; exact hbc)
      refine ev_succ (ev_as key fun k => ?_)
      rw [catchpitref07_cut.l0, if_pos (by omega), if_neg (by omega), if_pos (by omega), if_pos (by omega), if_neg (fun h => hbc (by rw [hbt] at h; exact UInt8.toNat_inj.1 (by omega))), hw]
theorem ref07_cut (s : ByteArray) (c : UInt8) (hs : s.size ≤ 1000000000) : Ev (fun k => catchpitref07_cut.f k s ((c.toNat : Nat) : Int)) (partsC c s) := by
  have := ref07_cut_l0 s c hs s.size 0 0 [] [] (Nat.le_refl _) (Nat.zero_le _) rfl (Nat.zero_le _) rfl (by simp)
  exact this
theorem snds_map (i : Nat) (l : List ByteArray) : (l.map fun x => (i, x)).map (fun y => y.2) = l := by
  rw [List.map_map]
  exact List.map_id _
theorem itemsF_snds : ∀ (l : List ByteArray) (i : Nat), (itemsF i l).map (fun y => y.2) = l.flatMap itemsP
  | [], _ => rfl
  | v :: l, i => by rw [itemsF, List.map_append, snds_map, itemsF_snds l (i + 1), List.flatMap_cons]
theorem itemsL_flat (l : List ByteArray) : itemsL l = l.flatMap itemsP := itemsF_snds l 0
theorem rdOf_nat (l : List ByteArray) (i : Nat) : rdOf ByteArray.empty l (i : Int) = l.getD i ByteArray.empty := by
  unfold rdOf
  rw [Int.toNat_natCast]
theorem partsC_size (c : UInt8) (s : ByteArray) : ∀ p ∈ partsC c s, p.size ≤ s.size := by
  intro p hp
  obtain ⟨l, hl, rfl⟩ := List.mem_map.1 hp
  rw [size_eq_length s]
  exact splitL_size _ _ _ hl
theorem partsC_length (c : UInt8) (s : ByteArray) : (partsC c s).length ≤ s.size + 1 := by
  unfold partsC
  rw [List.length_map, size_eq_length]
  exact splitL_count _ _
theorem sumS_drop (l : List ByteArray) (i : Nat) (h : i < l.length) : sumS (l.drop i) = (l.getD i ByteArray.empty).size + 1 + sumS (l.drop (i + 1)) := by
  rw [drop_cons l ByteArray.empty i h, sumS_cons]
theorem ref07_Items_l1 (xs : List ByteArray) (i : Nat) (ps : List ByteArray) (hps : ∀ p ∈ ps, p.size ≤ 1000000000) (r : List ByteArray) : ∀ (d j : Nat) (acc : List ByteArray), j ≤ ps.length → ps.length - j = d → acc.length + d ≤ 1000000000 → ps.length ≤ 1000000000 →
    Ev (fun k => catchpitref07_Items.l0 k xs (acc ++ (ps.drop j).flatMap partItem) (wrap64 ((i : Int) + 1))) r →
    Ev (fun k => catchpitref07_Items.l1 k xs acc (i : Int) ps (j : Int)) r := by
  intro d
  induction d with
  | zero =>
    intro j acc h1 h2 h3 h4 h
    rw [List.drop_eq_nil_of_le (by omega), List.flatMap_nil, List.append_nil] at h
    refine ev_succ (ev_as h fun k => ?_)
    rw [catchpitref07_Items.l1, if_neg (by omega)]
  | succ d ih =>
    intro j acc h1 h2 h3 h4 h
    have hj : j < ps.length := by omega
    have hw : wrap64 ((j : Int) + 1) = ((j + 1 : Nat) : Int) := by unfold wrap64; omega
    rw [drop_cons ps ByteArray.empty j hj, List.flatMap_cons, ← List.append_assoc] at h
    have hsz := hps _ (mem_getD ps ByteArray.empty j hj)
    have ht := ref02_Trim (ps.getD j ByteArray.empty) (by omega)
    unfold partItem at h
    by_cases hz : (trimS (ps.getD j ByteArray.empty)).size = 0
    · rw [if_pos hz, List.append_nil] at h
      have key := ih (j + 1) acc (by omega) (by omega) (by omega) h4 h
      refine ev_succ (ev_as (ev_bind (h := fun k t144 => (if (t144.size : Int) > 0 then (if acc.length < 8796093022208 then (catchpitref07_Items.l1 k xs (acc ++ [t144]) i ps (wrap64 ((j : Int) + 1))) else (none)) else (catchpitref07_Items.l1 k xs acc i ps (wrap64 ((j : Int) + 1))))) ht (ev_as key fun k => ?_)) fun k => ?_)
      · rw [if_neg (by omega), hw]
      · rw [catchpitref07_Items.l1, if_pos (by omega), if_pos (by omega), rdOf_nat]
    · rw [if_neg hz] at h
      have key := ih (j + 1) (acc ++ [trimS (ps.getD j ByteArray.empty)]) (by omega) (by omega) (by rw [List.length_append, List.length_singleton]; omega) h4 h
      refine ev_succ (ev_as (ev_bind (h := fun k t144 => (if (t144.size : Int) > 0 then (if acc.length < 8796093022208 then (catchpitref07_Items.l1 k xs (acc ++ [t144]) i ps (wrap64 ((j : Int) + 1))) else (none)) else (catchpitref07_Items.l1 k xs acc i ps (wrap64 ((j : Int) + 1))))) ht (ev_as key fun k => ?_)) fun k => ?_)
      · rw [if_pos (by omega), if_pos (by omega), hw]
      · rw [catchpitref07_Items.l1, if_pos (by omega), if_pos (by omega), rdOf_nat]
theorem ref07_Items_l0 (xs : List ByteArray) (hS : sumS xs ≤ 100000000) : ∀ (d i : Nat) (acc : List ByteArray), i ≤ xs.length → xs.length - i = d → acc.length + sumS (xs.drop i) ≤ 100000000 →
    Ev (fun k => catchpitref07_Items.l0 k xs acc (i : Int)) (acc ++ (xs.drop i).flatMap itemsP) := by
  have hlen := sumS_length xs
  intro d
  induction d with
  | zero =>
    intro i acc h1 h2 h3
    rw [List.drop_eq_nil_of_le (by omega), List.flatMap_nil, List.append_nil]
    refine ev_succ ⟨0, fun k _ => ?_⟩
    show catchpitref07_Items.l0 (k + 1) xs acc _ = _
    rw [catchpitref07_Items.l0, if_neg (by omega)]
  | succ d ih =>
    intro i acc h1 h2 h3
    have hi : i < xs.length := by omega
    have hw : wrap64 ((i : Int) + 1) = ((i + 1 : Nat) : Int) := by unfold wrap64; omega
    have hsz := sumS_at xs _ (mem_getD xs ByteArray.empty i hi)
    have hpl := itemsP_length (xs.getD i ByteArray.empty)
    have hpc := partsC_length 44 (xs.getD i ByteArray.empty)
    rw [sumS_drop xs i hi] at h3
    have key := ih (i + 1) (acc ++ itemsP (xs.getD i ByteArray.empty)) (by omega) (by omega) (by rw [List.length_append]; omega)
    rw [List.append_assoc, ← List.flatMap_cons, ← drop_cons xs ByteArray.empty i hi, itemsP_flat, ← hw] at key
    have h := ref07_Items_l1 xs i (partsB (xs.getD i ByteArray.empty)) (fun p hp => by have := partsC_size 44 _ p hp; omega) _ (partsB (xs.getD i ByteArray.empty)).length 0 acc (Nat.zero_le _) rfl (by rw [partsB_eq]; omega) (by rw [partsB_eq]; omega) key
    refine ev_succ (ev_as (ev_bind (h := fun k t140 => (catchpitref07_Items.l1 k xs acc i t140 0)) (ref07_cut (xs.getD i ByteArray.empty) 44 (by omega)) h) fun k => ?_)
    rw [catchpitref07_Items.l0, if_pos (by omega), if_pos (by omega), rdOf_nat]
    rfl
theorem ref07_Items (xs : List ByteArray) (hS : sumS xs ≤ 100000000) : Ev (fun k => catchpitref07_Items.f k xs) (itemsL xs) := by
  have := ref07_Items_l0 xs hS xs.length 0 [] (Nat.zero_le _) rfl (by simpa using hS)
  rw [itemsL_flat]
  exact this
theorem partsC_head (c : UInt8) (s : ByteArray) : ∃ r, partsC c s = cutL c s :: r := by
  have hc : cutL c s = mkB (Lib.cut s.data.toList [c]).1 := rfl
  have hx := index_at s.data.toList c
  by_cases h : s.data.toList.findIdx (· == c) < s.data.toList.length
  · refine ⟨(splitL c (s.data.toList.drop (s.data.toList.findIdx (· == c) + 1))).map mkB, ?_⟩
    unfold partsC
    rw [splitL_some c _ h, List.map_cons, hc]
    congr 2
    unfold Lib.cut
    rw [hx, if_pos h]
    simp
  · refine ⟨[], ?_⟩
    have hl : s.data.toList.findIdx (· == c) = s.data.toList.length := by have := List.findIdx_le_length (p := (· == c)) (xs := s.data.toList); omega
    unfold partsC
    rw [splitL_none c _ hl, hc]
    unfold Lib.cut
    rw [hx, if_neg h]
    rfl
theorem ref07_word (s : ByteArray) (hs : s.size ≤ 1000000000) : Ev (fun k => catchpitref07_word.f k s) (wordS s) := by
  obtain ⟨r, hr⟩ := partsC_head 59 s
  have h1 := ref07_cut s 59 hs
  have hz := cutL_size 59 s
  have h2 := ref02_Trim (cutL 59 s) (by omega)
  refine ev_as (ev_bind (h := fun k t150 => (if 0 < (t150.length : Int) then ((catchpitref02_Trim.f k (rdOf ByteArray.empty t150 0)).bind fun t154 => (some t154)) else (none))) h1 ?_) fun k => rfl
  rw [hr]
  refine ev_as (ev_bind (h := fun _ t => some t) h2 (ev_some _)) fun k => ?_
  rw [if_pos (by rw [List.length_cons]; omega)]
  rfl
end Go.Proofs.YtofegjgiocljlaaDoorH
end
section
namespace Go.Proofs.YtofegjgiocljlaaDoor.Pr
open Go.RowKit Go.Proofs.YtofegjgiocljlaaDoorH Go.Proofs.YtofegjgiocljlaaDoorW.PrintWords Go.Proofs.YtofegjgiocljlaaDoorW.PrintLast Go.Proofs.YtofegjgiocljlaaDoorW.PrintMore
attribute [local go_sem] max2_int min2_int max_two min_two max_three min_three max_four min_four   -- for this text's walks alone
set_option linter.unusedVariables false
set_option linter.unusedSimpArgs false
mutual
def catchpitlaw07_ListAgain.l0 : Nat → Int → Int → ByteArray → Int → Option (Bool)
  | 0, _, _, _, _ => none
  | k + 1, x0, x1, x5, x6 => if x6 > 0 then ((some (([(IntKind.u64.wrap (48 + (Int.tmod x6 10))) % 256] : List Int) : List Int)).bind fun y236 => (if (strOfNums y236).size + x5.size ≤ 9223372036854775807 then (catchpitlaw07_ListAgain.l0 k x0 x1 ((strOfNums y236) ++ x5) (IntKind.u64.wrap (Int.tdiv x6 10))) else (none))) else (if x5.toList = ([] : List UInt8) then ((some (([(IntKind.u64.wrap (48 + (Int.tmod x6 10))) % 256] : List Int) : List Int)).bind fun y239 => (if (strOfNums y239).size + x5.size ≤ 9223372036854775807 then (catchpitlaw07_ListAgain.l0 k x0 x1 ((strOfNums y239) ++ x5) (IntKind.u64.wrap (Int.tdiv x6 10))) else (none))) else (catchpitlaw07_ListAgain.l1 k x0 x5 ([] : List ByteArray) x5 (Int.tmod (wrap64 (x1)) 4) 0))
def catchpitlaw07_ListAgain.l1 : Nat → Int → ByteArray → List ByteArray → ByteArray → Int → Int → Option (Bool)
  | 0, _, _, _, _, _, _ => none
  | k + 1, x0, x5, x7, x8, x33, x34 => if x34 < x33 then (if x7.length < 8796093022208 then (if 2 + x5.size ≤ 9223372036854775807 then (if x8.size + ((⟨#[44, 32]⟩ : ByteArray) ++ x5).size ≤ 9223372036854775807 then (catchpitlaw07_ListAgain.l1 k x0 x5 (x7 ++ [x5]) (x8 ++ ((⟨#[44, 32]⟩ : ByteArray) ++ x5)) x33 (wrap64 (x34 + 1))) else (none)) else (none)) else (none)) else (if x7.length < 8796093022208 then ((list_Length.f (x7 ++ [x8])).bind fun bt248 => (if x0 > 4611686018427387903 then (if bt248.2 = 3 then (some true) else (if x0 ≤ 4611686018427387903 then (if bt248.2 = 0 then (some (bt248.1 == x0)) else (some false)) else (some false))) else (if x0 ≤ 4611686018427387903 then (if bt248.2 = 0 then (some (bt248.1 == x0)) else (some false)) else (some false)))) else (none))
end
def catchpitlaw07_ListAgain.f (k : Nat) (a0 : Int) (a1 : Int) : Option (Bool) := (catchpitlaw07_wakes.f k).bind fun t235 => (if t235 = true then (catchpitlaw07_ListAgain.l0 k a0 a1 (⟨#[]⟩ : ByteArray) a0) else (some false))
theorem catchpitlaw07_ListAgain.mono_l : ∀ k, (∀ y0 y1 y2 y3, LeO (catchpitlaw07_ListAgain.l0 k y0 y1 y2 y3) (catchpitlaw07_ListAgain.l0 (k + 1) y0 y1 y2 y3)) ∧ (∀ y0 y1 y2 y3 y4 y5, LeO (catchpitlaw07_ListAgain.l1 k y0 y1 y2 y3 y4 y5) (catchpitlaw07_ListAgain.l1 (k + 1) y0 y1 y2 y3 y4 y5))
  | 0 => ⟨fun _ _ _ _ r h => by simp [catchpitlaw07_ListAgain.l0] at h, fun _ _ _ _ _ _ r h => by simp [catchpitlaw07_ListAgain.l1] at h⟩
  | k + 1 => by
    obtain ⟨ih0, ih1⟩ := catchpitlaw07_ListAgain.mono_l k
    refine ⟨?_, ?_⟩
    · intro y0 y1 y2 y3
      unfold catchpitlaw07_ListAgain.l0
      repeat' first
      | (with_reducible exact ih0 _ _ _ _)
      | (with_reducible exact ih1 _ _ _ _ _ _)
      | (with_reducible exact catchpitlaw07_wakes.mono _)
      | (with_reducible exact LeO.refl _)
      | (with_reducible exact LeO.none _)
      | (with_reducible refine LeO.ite ?_ ?_)
      | (with_reducible refine LeO.bind ?_ (fun _ => ?_))
      | exact ih0 _ _ _ _
      | exact ih1 _ _ _ _ _ _
      | exact catchpitlaw07_wakes.mono _
      | exact LeO.none _
      | refine LeO.ite ?_ ?_
      | refine LeO.bind ?_ (fun _ => ?_)
    · intro y0 y1 y2 y3 y4 y5
      unfold catchpitlaw07_ListAgain.l1
      repeat' first
      | (with_reducible exact ih0 _ _ _ _)
      | (with_reducible exact ih1 _ _ _ _ _ _)
      | (with_reducible exact catchpitlaw07_wakes.mono _)
      | (with_reducible exact LeO.refl _)
      | (with_reducible exact LeO.none _)
      | (with_reducible refine LeO.ite ?_ ?_)
      | (with_reducible refine LeO.bind ?_ (fun _ => ?_))
      | exact ih0 _ _ _ _
      | exact ih1 _ _ _ _ _ _
      | exact catchpitlaw07_wakes.mono _
      | exact LeO.none _
      | refine LeO.ite ?_ ?_
      | refine LeO.bind ?_ (fun _ => ?_)
theorem catchpitlaw07_ListAgain.mono : ∀ a0 a1 k, LeO (catchpitlaw07_ListAgain.f k a0 a1) (catchpitlaw07_ListAgain.f (k + 1) a0 a1) := by
  intro a0 a1 k
  obtain ⟨ih0, ih1⟩ := catchpitlaw07_ListAgain.mono_l k
  unfold catchpitlaw07_ListAgain.f
  repeat' first
      | (with_reducible exact ih0 _ _ _ _)
      | (with_reducible exact ih1 _ _ _ _ _ _)
      | (with_reducible exact catchpitlaw07_wakes.mono _)
      | (with_reducible exact LeO.refl _)
      | (with_reducible exact LeO.none _)
      | (with_reducible refine LeO.ite ?_ ?_)
      | (with_reducible refine LeO.bind ?_ (fun _ => ?_))
      | exact ih0 _ _ _ _
      | exact ih1 _ _ _ _ _ _
      | exact catchpitlaw07_wakes.mono _
      | exact LeO.none _
      | refine LeO.ite ?_ ?_
      | refine LeO.bind ?_ (fun _ => ?_)
def octet_Alike.f (a0 : ByteArray) (a1 : ByteArray) : Option (Bool) := (octet_Small.f a0).bind fun t250 => ((octet_Small.f a1).bind fun t251 => (some (t250.toList == t251.toList)))
def catchpitref07_Has.l0 : Nat → ByteArray → List ByteArray → Int → Option (Bool)
  | 0, _, _, _ => none
  | k + 1, x0, x5, x6 => if x6 < (x5.length : Int) then (if 0 ≤ x6 then ((catchpitref07_word.f k (rdOf ByteArray.empty x5 x6)).bind fun t256 => ((catchpitref02_Small.f k t256).bind fun t257 => ((catchpitref02_Small.f k x0).bind fun t258 => (if t257.toList = t258.toList then (some true) else (catchpitref07_Has.l0 k x0 x5 (wrap64 (x6 + 1))))))) else (none)) else (some false)
def catchpitref07_Has.f (k : Nat) (a0 : ByteArray) (l1 : List ByteArray) : Option (Bool) := (catchpitref07_Items.f k l1).bind fun t252 => (catchpitref07_Has.l0 k a0 t252 0)
theorem catchpitref07_Has.mono_l : ∀ k, (∀ y0 y1 y2, LeO (catchpitref07_Has.l0 k y0 y1 y2) (catchpitref07_Has.l0 (k + 1) y0 y1 y2))
  | 0 => fun _ _ _ r h => by simp [catchpitref07_Has.l0] at h
  | k + 1 => by
    have ih0 := catchpitref07_Has.mono_l k
    · intro y0 y1 y2
      unfold catchpitref07_Has.l0
      repeat' first
      | (with_reducible exact ih0 _ _ _)
      | (with_reducible exact catchpitref02_Small.mono _ _)
      | (with_reducible exact catchpitref07_Items.mono _ _)
      | (with_reducible exact catchpitref07_word.mono _ _)
      | (with_reducible exact LeO.refl _)
      | (with_reducible exact LeO.none _)
      | (with_reducible refine LeO.ite ?_ ?_)
      | (with_reducible refine LeO.bind ?_ (fun _ => ?_))
      | exact ih0 _ _ _
      | exact catchpitref02_Small.mono _ _
      | exact catchpitref07_Items.mono _ _
      | exact catchpitref07_word.mono _ _
      | exact LeO.none _
      | refine LeO.ite ?_ ?_
      | refine LeO.bind ?_ (fun _ => ?_)
theorem catchpitref07_Has.mono : ∀ a0 a1 k, LeO (catchpitref07_Has.f k a0 a1) (catchpitref07_Has.f (k + 1) a0 a1) := by
  intro a0 a1 k
  have ih0 := catchpitref07_Has.mono_l k
  unfold catchpitref07_Has.f
  repeat' first
      | (with_reducible exact ih0 _ _ _)
      | (with_reducible exact catchpitref02_Small.mono _ _)
      | (with_reducible exact catchpitref07_Items.mono _ _)
      | (with_reducible exact catchpitref07_word.mono _ _)
      | (with_reducible exact LeO.refl _)
      | (with_reducible exact LeO.none _)
      | (with_reducible refine LeO.ite ?_ ?_)
      | (with_reducible refine LeO.bind ?_ (fun _ => ?_))
      | exact ih0 _ _ _
      | exact catchpitref02_Small.mono _ _
      | exact catchpitref07_Items.mono _ _
      | exact catchpitref07_word.mono _ _
      | exact LeO.none _
      | refine LeO.ite ?_ ?_
      | refine LeO.bind ?_ (fun _ => ?_)
def catchpitlaw07_ListItems.j0 : Nat → List ByteArray → ByteArray → Bool → Option (Bool)
  | 0, _, _, _ => none
  | k + 1, x0, x1, x13 => if x13 = true then (some true) else ((list_Items.f x0).bind fun t261 => ((catchpitref07_Items.f k x0).bind fun t264 => ((catchpitref05_Texts.f k t261 t264).bind fun t267 => (if t267 = true then ((list_Has.f x1 x0).bind fun t268 => ((catchpitref07_Has.f k x1 x0).bind fun t269 => (some (t268 == t269)))) else (some false)))))
def catchpitlaw07_ListItems.f (k : Nat) (l0 : List ByteArray) (a1 : ByteArray) : Option (Bool) := (catchpitlaw07_wakes.f k).bind fun t259 => (if t259 = true then ((catchpitlaw07_long.f k l0).bind fun t260 => (if t260 = true then (catchpitlaw07_ListItems.j0 k l0 a1 true) else (catchpitlaw07_ListItems.j0 k l0 a1 (decide ((a1.size : Int) > 200))))) else (some false))
theorem catchpitlaw07_ListItems.mono_l : ∀ k, (∀ y0 y1 y2, LeO (catchpitlaw07_ListItems.j0 k y0 y1 y2) (catchpitlaw07_ListItems.j0 (k + 1) y0 y1 y2))
  | 0 => fun _ _ _ r h => by simp [catchpitlaw07_ListItems.j0] at h
  | k + 1 => by
    have ih0 := catchpitlaw07_ListItems.mono_l k
    · intro y0 y1 y2
      unfold catchpitlaw07_ListItems.j0
      repeat' first
      | (with_reducible exact ih0 _ _ _)
      | (with_reducible exact catchpitlaw07_long.mono _ _)
      | (with_reducible exact catchpitlaw07_wakes.mono _)
      | (with_reducible exact catchpitref05_Texts.mono _ _ _)
      | (with_reducible exact catchpitref07_Has.mono _ _ _)
      | (with_reducible exact catchpitref07_Items.mono _ _)
      | (with_reducible exact LeO.refl _)
      | (with_reducible exact LeO.none _)
      | (with_reducible refine LeO.ite ?_ ?_)
      | (with_reducible refine LeO.bind ?_ (fun _ => ?_))
      | exact ih0 _ _ _
      | exact catchpitlaw07_long.mono _ _
      | exact catchpitlaw07_wakes.mono _
      | exact catchpitref05_Texts.mono _ _ _
      | exact catchpitref07_Has.mono _ _ _
      | exact catchpitref07_Items.mono _ _
      | exact LeO.none _
      | refine LeO.ite ?_ ?_
      | refine LeO.bind ?_ (fun _ => ?_)
theorem catchpitlaw07_ListItems.mono : ∀ a0 a1 k, LeO (catchpitlaw07_ListItems.f k a0 a1) (catchpitlaw07_ListItems.f (k + 1) a0 a1) := by
  intro a0 a1 k
  have ih0 := catchpitlaw07_ListItems.mono_l k
  unfold catchpitlaw07_ListItems.f
  repeat' first
      | (with_reducible exact ih0 _ _ _)
      | (with_reducible exact catchpitlaw07_long.mono _ _)
      | (with_reducible exact catchpitlaw07_wakes.mono _)
      | (with_reducible exact catchpitref05_Texts.mono _ _ _)
      | (with_reducible exact catchpitref07_Has.mono _ _ _)
      | (with_reducible exact catchpitref07_Items.mono _ _)
      | (with_reducible exact LeO.refl _)
      | (with_reducible exact LeO.none _)
      | (with_reducible refine LeO.ite ?_ ?_)
      | (with_reducible refine LeO.bind ?_ (fun _ => ?_))
      | exact ih0 _ _ _
      | exact catchpitlaw07_long.mono _ _
      | exact catchpitlaw07_wakes.mono _
      | exact catchpitref05_Texts.mono _ _ _
      | exact catchpitref07_Has.mono _ _ _
      | exact catchpitref07_Items.mono _ _
      | exact LeO.none _
      | refine LeO.ite ?_ ?_
      | refine LeO.bind ?_ (fun _ => ?_)
end Go.Proofs.YtofegjgiocljlaaDoor.Pr
end
section
namespace Go.Proofs.YtofegjgiocljlaaDoorH
open Go.RowKit Go.Proofs.YtofegjgiocljlaaDoorW.PrintWords Go.Proofs.YtofegjgiocljlaaDoorW.PrintLast Go.Proofs.YtofegjgiocljlaaDoorW.PrintMore Go.Proofs.YtofegjgiocljlaaDoor.Pr
theorem itemsL_at (xs : List ByteArray) (y : ByteArray) (h : y ∈ itemsL xs) : y.size ≤ sumS xs := by
  obtain ⟨p, hp, rfl⟩ := List.mem_map.1 h
  exact (itemsF_mem xs 0 p hp).2.2
theorem itemsL_length (xs : List ByteArray) : (itemsL xs).length ≤ sumS xs := by
  unfold itemsL
  rw [List.length_map]
  exact itemsF_length xs 0
theorem badW_cons (y : ByteArray) (l : List ByteArray) : badW (y :: l) = (!(tokB (wordS y)) || badW l) := by
  unfold badW
  rw [List.any_cons]
theorem ref07_Codings_l0 (l : List ByteArray) (hl : ∀ y ∈ l, y.size ≤ 100000000) (hc : l.length ≤ 1000000000) : ∀ (d i : Nat) (acc : List ByteArray), i ≤ l.length → l.length - i = d → acc.length ≤ i →
    Ev (fun k => catchpitref07_Codings.l0 k acc l (i : Int)) (if badW (l.drop i) = true then ([], 2) else if (acc ++ codesL (l.drop i)).length = 0 then ([], 2) else (acc ++ codesL (l.drop i), 0)) := by
  intro d
  induction d with
  | zero =>
    intro i acc h1 h2 h3
    rw [List.drop_eq_nil_of_le (by omega), if_neg (by decide)]
    refine ev_succ ⟨0, fun k _ => ?_⟩
    show catchpitref07_Codings.l0 (k + 1) acc l _ = _
    rw [catchpitref07_Codings.l0, if_neg (by omega), show acc ++ codesL [] = acc from List.append_nil _]
    by_cases h0 : acc.length = 0
    · rw [if_pos (by omega), if_pos h0]
    · rw [if_neg (by omega), if_neg h0]
  | succ d ih =>
    intro i acc h1 h2 h3
    have hi : i < l.length := by omega
    have hwr : wrap64 ((i : Int) + 1) = ((i + 1 : Nat) : Int) := by unfold wrap64; omega
    have hy := hl _ (mem_getD l ByteArray.empty i hi)
    have hz := wordS_size (l.getD i ByteArray.empty)
    obtain ⟨K1, g1⟩ := ref07_word (l.getD i ByteArray.empty) (by omega)
    obtain ⟨K2, g2⟩ := ref02_Small (wordS (l.getD i ByteArray.empty)) (by omega)
    obtain ⟨K3, g3⟩ := ref02_Token (wordS (l.getD i ByteArray.empty)) (by omega)
    obtain ⟨K4, g4⟩ := ih (i + 1) (acc ++ [codeS (l.getD i ByteArray.empty)]) (by omega) (by omega) (by rw [List.length_append, List.length_singleton]; omega)
    dsimp only at g1 g2 g3 g4
    refine ev_succ ⟨K1 + K2 + K3 + K4, fun k hk => ?_⟩
    show catchpitref07_Codings.l0 (k + 1) acc l _ = _
    rw [catchpitref07_Codings.l0, if_pos (by omega), if_pos (by omega), rdOf_nat, g1 k (by omega), Option.bind_some, g3 k (by omega), Option.bind_some, drop_cons l ByteArray.empty i hi, badW_cons]
    by_cases ht : tokB (wordS (l.getD i ByteArray.empty)) = true
    · rw [if_pos ht, g2 k (by omega), Option.bind_some, if_pos (by omega), hwr, ht, Bool.not_true, Bool.false_or]
      refine (g4 k (by omega)).trans ?_
      rw [show acc ++ codesL (l.getD i ByteArray.empty :: l.drop (i + 1)) = acc ++ [codeS (l.getD i ByteArray.empty)] ++ codesL (l.drop (i + 1)) by unfold codesL; simp]
    · rw [if_neg ht, if_pos (by rw [Bool.not_eq_true] at ht; rw [ht]; rfl)]
theorem ref07_Codings (xs : List ByteArray) (hS : sumS xs ≤ 100000000) : Ev (fun k => catchpitref07_Codings.f k xs) (codR xs) := by
  have hn := itemsL_length xs
  by_cases h0 : xs.length = 0
  · refine ⟨0, fun k _ => ?_⟩
    show catchpitref07_Codings.f k xs = _
    unfold catchpitref07_Codings.f codR
    rw [if_pos (by omega), if_pos h0]
  have h := ref07_Codings_l0 (itemsL xs) (fun y hy => by have := itemsL_at xs y hy; omega) (by omega) (itemsL xs).length 0 [] (Nat.zero_le _) rfl (Nat.zero_le _)
  have e : codR xs = if badW ((itemsL xs).drop 0) = true then ([], 2) else if ([] ++ codesL ((itemsL xs).drop 0)).length = 0 then ([], 2) else ([] ++ codesL ((itemsL xs).drop 0), 0) := by
    unfold codR
    rw [if_neg h0, List.drop_zero, List.nil_append, show (codesL (itemsL xs)).length = (itemsL xs).length by unfold codesL; rw [List.length_map]]
  rw [e]
  refine ev_as (ev_bind (h := fun k t200 => catchpitref07_Codings.l0 k ([] : List ByteArray) t200 0) (ref07_Items xs hS) h) fun k => ?_
  unfold catchpitref07_Codings.f
  rw [if_neg (by omega)]
theorem codR_length (xs : List ByteArray) (hS : sumS xs ≤ 1000000) : (codR xs).1.length ≤ 1000000 := by
  have hn := itemsL_length xs
  unfold codR
  split
  · exact Nat.zero_le _
  split
  · exact Nat.zero_le _
  split
  · exact Nat.zero_le _
  · show (codesL (itemsL xs)).length ≤ _
    unfold codesL
    rw [List.length_map]
    omega
end Go.Proofs.YtofegjgiocljlaaDoorH
end
section
namespace Go.Proofs.YtofegjgiocljlaaDoorH
open Go.RowKit Go.Proofs.YtofegjgiocljlaaDoorW.PrintWords Go.Proofs.YtofegjgiocljlaaDoorW.PrintLast Go.Proofs.YtofegjgiocljlaaDoorW.PrintMore Go.Proofs.YtofegjgiocljlaaDoor.Pr
theorem law07_long_l0 (l : List ByteArray) (hl : ∀ y ∈ l, y.size ≤ 140737488351232) (hc : l.length ≤ 140737488351232) : ∀ (d i n : Nat), i ≤ l.length → l.length - i = d → n ≤ 200000000000000 →
    Ev (fun k => catchpitlaw07_long.l0 k l (n : Int) (i : Int)) (decide (1000 < n + sumS (l.drop i))) := by
  intro d
  induction d with
  | zero =>
    intro i n h1 h2 h3
    rw [List.drop_eq_nil_of_le (by omega)]
    refine ev_succ ⟨0, fun k _ => ?_⟩
    show catchpitlaw07_long.l0 (k + 1) l _ _ = _
    rw [catchpitlaw07_long.l0, if_neg (by omega)]
    congr 1
    show _ = decide (1000 < n + 0)
    rw [Nat.add_zero]
    exact decide_eq_decide.2 (by omega)
  | succ d ih =>
    intro i n h1 h2 h3
    have hi : i < l.length := by omega
    have hwr : wrap64 ((i : Int) + 1) = ((i + 1 : Nat) : Int) := by unfold wrap64; omega
    have hy := hl _ (mem_getD l ByteArray.empty i hi)
    by_cases hn : n ≤ 1000
    · have g := ih (i + 1) (n + ((l.getD i ByteArray.empty).size + 1)) (by omega) (by omega) (by omega)
      rw [sumS_drop l i hi, ← Nat.add_assoc]
      refine ev_succ (ev_as g fun k => ?_)
      rw [catchpitlaw07_long.l0, if_pos (by omega), if_pos (by omega), if_pos (by omega), rdOf_nat, hwr, wrapS _ (by omega), wrapN _ _ (by omega)]
    · refine ev_succ ⟨0, fun k _ => ?_⟩
      show catchpitlaw07_long.l0 (k + 1) l _ _ = _
      rw [catchpitlaw07_long.l0, if_pos (by omega), if_neg (by omega)]
      congr 1
      exact decide_eq_decide.2 (by omega)
theorem law07_long (l : List ByteArray) (hl : ∀ y ∈ l, y.size ≤ 140737488351232) (hc : l.length ≤ 140737488351232) : Ev (fun k => catchpitlaw07_long.f k l) (decide (1000 < sumS l)) := by
  have := law07_long_l0 l hl hc l.length 0 0 (Nat.zero_le _) rfl (Nat.zero_le _)
  rw [Nat.zero_add] at this
  exact this
theorem wakes07 : Ev (fun k => catchpitlaw07_wakes.f k) true := by
  obtain ⟨K, hK⟩ := ref05_Texts [(⟨#[103, 122, 105, 112]⟩ : ByteArray), (⟨#[99, 104, 117, 110, 107, 101, 100]⟩ : ByteArray)] (by decide)
  dsimp only at hK
  have e1 : list_Length.f (([(⟨#[53]⟩ : ByteArray), (⟨#[53, 44, 32, 53]⟩ : ByteArray)] : List ByteArray)) = some (5, 0) := by decide +kernel
  have e2 : list_Length.f (([(⟨#[53]⟩ : ByteArray), (⟨#[54]⟩ : ByteArray)] : List ByteArray)) = some (0, 2) := by decide +kernel
  have e3 : list_Codings.f (([(⟨#[103, 122, 105, 112, 59, 113, 61, 49, 44, 32, 67, 104, 117, 110, 107, 101, 100]⟩ : ByteArray)] : List ByteArray)) = some ([(⟨#[103, 122, 105, 112]⟩ : ByteArray), (⟨#[99, 104, 117, 110, 107, 101, 100]⟩ : ByteArray)], 0) := by decide +kernel
  refine ⟨K, fun k hk => ?_⟩
  show catchpitlaw07_wakes.f k = _
  unfold catchpitlaw07_wakes.f
  rw [e1, Option.bind_some, e2, Option.bind_some, e3, Option.bind_some, if_pos rfl, if_pos rfl, if_pos rfl, if_pos rfl, hK k hk, Option.bind_some]
end Go.Proofs.YtofegjgiocljlaaDoorH
end
section
namespace Go.Proofs.YtofegjgiocljlaaDoor.Pure
open Go.RowKit Go.Proofs.YtofegjgiocljlaaDoorH Go.Proofs.YtofegjgiocljlaaDoor.Pr Go.Proofs.YtofegjgiocljlaaDoorW.PrintWords Go.Proofs.YtofegjgiocljlaaDoorW.PrintLast
theorem ListCodings (l : List ByteArray) (hl : l.length * 16 ≤ 140737488351232 ∧ ∀ y ∈ l, y.size ≤ 140737488351232) : ∃ k, catchpitlaw07_ListCodings.f k l = some true := by
  obtain ⟨K1, g1⟩ := wakes07
  obtain ⟨K2, g2⟩ := law07_long l hl.2 (by omega)
  dsimp only at g1 g2
  by_cases h : 1000 < sumS l
  · refine ⟨K1 + K2, ?_⟩
    rw [catchpitlaw07_ListCodings.f, g1 _ (by omega), Option.bind_some, if_pos rfl, g2 _ (by omega), Option.bind_some, if_pos (decide_eq_true h)]
  obtain ⟨K3, g3⟩ := ref07_Codings l (by omega)
  obtain ⟨K4, g4⟩ := ref05_Texts (codR l).1 (codR_length l (by omega))
  dsimp only at g3 g4
  refine ⟨K1 + K2 + K3 + K4, ?_⟩
  rw [catchpitlaw07_ListCodings.f, g1 _ (by omega), Option.bind_some, if_pos rfl, g2 _ (by omega), Option.bind_some, if_neg (by rw [decide_eq_false h]; decide)]
  unfold list_Codings.f
  rw [if_pos (by omega), Option.bind_some, g3 _ (by omega), Option.bind_some, g4 _ (by omega), Option.bind_some, if_pos rfl]
  simp
end Go.Proofs.YtofegjgiocljlaaDoor.Pure
end
section
namespace Go.Proofs.YtofegjgiocljlaaDoorH
open Go.RowKit Go.ChangeShapes Go.WideShapes Go.ChangeAt
theorem two_of {α : Type} {l : List α} (h : l.length = 2) : ∃ a b, l = [a, b] := by
  match l, h with
  | [a, b], _ => exact ⟨a, b, rfl⟩
theorem three_of {α : Type} {l : List α} (h : l.length = 3) : ∃ a b c, l = [a, b, c] := by
  match l, h with
  | [a, b, c], _ => exact ⟨a, b, c, rfl⟩
theorem six_of {α : Type} {l : List α} (h : l.length = 6) : ∃ a b c d e f, l = [a, b, c, d, e, f] := by
  match l, h with
  | [a, b, c, d, e, f], _ => exact ⟨a, b, c, d, e, f, rfl⟩
theorem cells_of_one {W : World} {cs : List Value} {y : DataW Unit × List MemPlace} {m : Nat} {x0 : Int}
    (hd : DataW.trod (fun _ => ()) Tryd.prog W 0 (fun _ => true) false m 5 cs = some y) (hy : y.1 = .lit (.int .u8 x0)) : cs = [.int .u8 x0] := by
  obtain ⟨n, e1, e2, _⟩ := DataW.trod_int Tryd.underlying5 hd
  rw [e2] at hy
  simp only [DataW.lit.injEq, Lit.int.injEq, true_and] at hy
  rw [e1, hy]
theorem cells_of_pair {W : World} {cs : List Value} {y : DataW Unit × List MemPlace} {m : Nat} {x0 x1 : Int}
    (hd : DataW.trod (fun _ => ()) Tryd.prog W 0 (fun _ => true) false m 95 cs = some y) (hy : y.1 = .agg [.lit (.int .u8 x0), .lit (.int .u8 x1)]) :
    cs = [.int .u8 x0, .int .u8 x1] := by
  have c5 : Tryd.prog.cellsOf 5 = 1 := by kernel_rfl
  have c2 : Tryd.prog.cellsOf 95 = 2 := by kernel_rfl
  obtain ⟨xs, m, _, ex, hn, hl, hel⟩ := DataW.trod_array Tryd.underlying95 hd
  rw [c2] at hn
  obtain ⟨a, b, rfl⟩ := two_of hn
  obtain ⟨u, v, rfl⟩ := two_of hl
  · rw [ex] at hy
    simp only [List.map_cons, List.map_nil, DataW.agg.injEq, List.cons.injEq, and_true] at hy
    have h0 := hel 0 (by omega)
    have h1 := hel 1 (by omega)
    simp only [c5] at h0 h1
    have e0 := cells_of_one (y := u) (by simpa using h0) hy.1
    have e1 := cells_of_one (y := v) (by simpa using h1) hy.2
    simp at e0 e1
    rw [e0, e1]
theorem cells_of_pairs {W : World} {cs : List Value} {y : DataW Unit × List MemPlace} {m : Nat} {x0 x1 x2 x3 x4 x5 : Int}
    (hd : DataW.trod (fun _ => ()) Tryd.prog W 0 (fun _ => true) false m 96 cs = some y)
    (hy : y.1 = .agg [.agg [.lit (.int .u8 x0), .lit (.int .u8 x1)], .agg [.lit (.int .u8 x2), .lit (.int .u8 x3)], .agg [.lit (.int .u8 x4), .lit (.int .u8 x5)]]) :
    cs = [.int .u8 x0, .int .u8 x1, .int .u8 x2, .int .u8 x3, .int .u8 x4, .int .u8 x5] := by
  have c2 : Tryd.prog.cellsOf 95 = 2 := by kernel_rfl
  have c6 : Tryd.prog.cellsOf 96 = 6 := by kernel_rfl
  obtain ⟨xs, m, _, ex, hn, hl, hel⟩ := DataW.trod_array Tryd.underlying96 hd
  rw [c6] at hn
  obtain ⟨a, b, c, d, e, f, rfl⟩ := six_of hn
  obtain ⟨u, v, z, rfl⟩ := three_of hl
  · rw [ex] at hy
    simp only [List.map_cons, List.map_nil, DataW.agg.injEq, List.cons.injEq, and_true] at hy
    have h0 := hel 0 (by omega)
    have h1 := hel 1 (by omega)
    have h2 := hel 2 (by omega)
    simp only [c2] at h0 h1 h2
    have e0 := cells_of_pair (y := u) (by simpa using h0) hy.1
    have e1 := cells_of_pair (y := v) (by simpa using h1) hy.2.1
    have e2 := cells_of_pair (y := z) (by simpa using h2) hy.2.2
    simp at e0 e1 e2
    rw [e0.1, e0.2, e1.1, e1.2, e2.1, e2.2]
theorem tabOk_of_laid {W : World} {L : List (String × DataW Unit)} (h : laidMetH Tryd.prog L W) (hp : (L.all fun x => x.2.handleName?.isNone) = true)
    (hf : L.filter (fun x => x.1 == "catchpit/octet.ends") = [("catchpit/octet.ends", Go.Proofs.YtofegjgiocljlaaDoor.Rows.laid_catchpit_octet_ends)]) (hs : W.ShapedOpen Tryd.prog) : TabOk W := by
  rw [MakeChecks.laidMetH_plain _ _ _ hp] at h
  have h2 := laidMet.filter (fun x => x.1 == "catchpit/octet.ends") h
  rw [hf] at h2
  obtain ⟨ps, ⟨g, t, cs, fuel, p, q, hg, ht, hv, hd, _, _⟩, _, _⟩ := h2
  obtain rfl := Option.some.inj ((show Tryd.prog.globalNamed "catchpit/octet.ends" = some 0 by kernel_rfl).symm.trans hg)
  obtain rfl := Option.some.inj ((show (Tryd.prog.globals[0]?).map (·.type) = some 96 by kernel_rfl).symm.trans ht)
  have e := cells_of_pairs hd rfl
  have hc := World.var?_cell hg hv
  have at_ : ∀ j, cs[j]? = cs.toList[j]? := fun j => (Array.getElem?_toList ..).symm
  rw [e] at at_
  exact ⟨(hc 0).trans (at_ 0), (hc 1).trans (at_ 1), (hc 2).trans (at_ 2), (hc 3).trans (at_ 3), (hc 4).trans (at_ 4), (hc 5).trans (at_ 5), MxOk.of_shaped hs⟩
end Go.Proofs.YtofegjgiocljlaaDoorH
end
section
namespace Go.Proofs.YtofegjgiocljlaaDoorH
open Go.RowKit Go.ChangeShapes Go.WideShapes Go.ChangeAt Go.Proofs.YtofegjgiocljlaaDoorW.PrintWords
def Light {H : Type} (P : Program) (t : TypeId) (d : DataW H) : Prop := ∀ x ∈ DataW.weights P t d, x ≤ reachBytes
structure Opens (P : Program) {α : Type} (d : Kd α) (t : TypeId) (G : α → Prop) : Prop where
  cells : P.cellsOf t = d.sz
  open_ : ∀ {H : Type} {enc : TypeId × Value → H} {W : World} {fuel : Nat} {cs : List Value} {x : DataW H × List MemPlace},
    DataW.trod enc P W 0 (fun _ => true) true fuel t cs = some x → Light P t x.1 → ∃ y, d.K W y cs ∧ G y
theorem Opens.int {P : Program} {t : TypeId} {k : IntKind} (hu : P.underlying t = some (.int k)) (hc : P.cellsOf t = 1) : Opens P (Kd.int k) t (fun n => (Lit.int k n).wf = true) := by
  refine ⟨hc, fun h _ => ?_⟩
  obtain ⟨n, e1, e2, wf⟩ := DataW.trod_int hu h
  exact ⟨n, e1, wf⟩
theorem Opens.bool {P : Program} {t : TypeId} (hu : P.underlying t = some .bool) (hc : P.cellsOf t = 1) : Opens P Kd.bool t (fun _ => True) := by
  refine ⟨hc, fun {_ _ _ fuel cs _} h _ => ?_⟩
  cases fuel with
  | zero => simp [DataW.trod] at h
  | succ m =>
    unfold DataW.trod at h
    rw [hu] at h
    match cs, h with
    | [.bool b], _ => exact ⟨b, rfl, trivial⟩
theorem Opens.string {P : Program} {t : TypeId} (hu : P.underlying t = some .string) (hc : P.cellsOf t = 1) : Opens P Kd.string t (fun s => s.size ≤ 140737488351232) := by
  refine ⟨hc, fun h hl => ?_⟩
  obtain ⟨s, e1, e2, _⟩ := DataW.trod_string hu h
  refine ⟨s, e1, ?_⟩
  subst e2
  have := hl s.data.toList.length (by simp [DataW.weights])
  rw [data_length] at this
  exact this
theorem weightsAll_mem {H : Type} (P : Program) (e : TypeId) : ∀ (l : List (DataW H)) (d : DataW H), d ∈ l → ∀ x ∈ DataW.weights P e d, x ∈ DataW.weightsAll P e l
  | [], d, h, _, _ => by cases h
  | a :: l, d, h, x, hx => by
    rw [DataW.weightsAll]
    rcases List.mem_cons.1 h with rfl | h
    · exact List.mem_append_left _ hx
    · exact List.mem_append_right _ (weightsAll_mem P e l d h x hx)
theorem list_of {α : Type} {p : Nat → α → Prop} : ∀ n : Nat, (∀ i, i < n → ∃ y, p i y) → ∃ l : List α, l.length = n ∧ ∀ i y, l[i]? = some y → p i y
  | 0, _ => ⟨[], rfl, fun i y h => by simp at h⟩
  | n + 1, h => by
    obtain ⟨l, hl, hp⟩ := list_of n (fun i hi => h i (by omega))
    obtain ⟨y, hy⟩ := h n (by omega)
    refine ⟨l ++ [y], by simp [hl], fun i z hz => ?_⟩
    rcases Nat.lt_or_ge i n with hi | hi
    · rw [List.getElem?_append_left (by omega)] at hz
      exact hp i z hz
    · rw [List.getElem?_append_right (by omega), hl] at hz
      rcases Nat.eq_zero_or_pos (i - n) with h0 | h0
      · rw [h0] at hz
        obtain rfl : i = n := by omega
        obtain rfl : y = z := by simpa using hz
        exact hy
      · rw [List.getElem?_eq_none (by simp; omega)] at hz
        cases hz
theorem add_add (a : Addr) (i j : Nat) : (a.add i).add j = a.add (i + j) := by
  unfold Addr.add
  by_cases h1 : i = 0
  · subst h1; simp
  · by_cases h2 : j = 0
    · subst h2; simp [h1]
    · simp [h1, h2, Nat.add_assoc]
theorem cells_at {W : World} {base : Nat} {a : Addr} {n : Nat} {cs : List Value} (h : W.cells? base a n = some cs) : cs.length = n ∧ ∀ (i : Nat) u, cs[i]? = some u → W.cell? (a.add i) = some u := by
  obtain ⟨_, hn, hc⟩ := World.cells?_some h
  refine ⟨hn, fun i u hu => ?_⟩
  have hi : i < n := by
    rcases Nat.lt_or_ge i n with hi | hi
    · exact hi
    · rw [List.getElem?_eq_none (by omega)] at hu; cases hu
  rw [hc i hi, hu]
theorem Opens.slice {P : Program} {α : Type} {d : Kd α} {t e : TypeId} {G : α → Prop} (h : Opens P d e G) (hu : P.underlying t = some (.slice e)) (hc : P.cellsOf t = 1) {B : Nat} (hB : P.bytesOf e = B) :
    Opens P (Kd.slice e d) t (fun l => l.length * B ≤ 140737488351232 ∧ ∀ y ∈ l, G y) := by
  refine ⟨hc, fun {H enc W fuel cs x} hx hl => ?_⟩
  rcases Deep.open_slice hu hx with ⟨rfl, rfl⟩ | ⟨a, len, cap, m, n, D, Pl, rfl, _, hle, hm, hmm, rfl, hel⟩
  · exact ⟨[], ⟨none, 0, rfl, Nat.le_refl _, rfl, by simp, fun h => by simp at h⟩, by simp, fun y hy => by cases hy⟩
  · simp only [if_true] at hmm
    subst hmm
    have hw : (len + (m - len)) * B ≤ 140737488351232 := by
      have := hl ((len + (m - len)) * B) (by
        unfold DataW.weights
        simp only [hu, hB]
        simp)
      exact this
    have hget : ∀ i, i < len → ∃ y, (∃ c, c.length = d.sz ∧ d.K W y c ∧ ∀ j u, c[j]? = some u → W.cell? (a.add (i * d.sz + j)) = some u) ∧ G y := by
      intro i hi
      obtain ⟨cs', h1, h2⟩ := hel i (by omega)
      obtain ⟨y, hy, hg⟩ := h.open_ h2 (fun x hx => hl x (by
        unfold DataW.weights
        simp only [hu]
        refine List.mem_cons_of_mem _ (List.mem_append_left _ (weightsAll_mem P e _ (D i) ?_ x hx))
        exact List.mem_map.2 ⟨i, List.mem_range.2 hi, rfl⟩))
      obtain ⟨hn, hcell⟩ := cells_at h1
      refine ⟨y, ⟨cs', by rw [hn, h.cells], hy, fun j u hj => ?_⟩, hg⟩
      have := hcell j u hj
      rw [add_add, h.cells] at this
      exact this
    obtain ⟨l, hll, hat⟩ := list_of len hget
    refine ⟨l, ⟨some a, m, by rw [hll], by omega, rfl, by rw [hll]; unfold maxLen at hm; omega, fun _ => ⟨a, rfl, fun j p hj => (hat j p hj).1⟩⟩, ?_, fun y hy => ?_⟩
    · rw [hll]
      exact Nat.le_trans (Nat.mul_le_mul_right _ (by omega)) hw
    · obtain ⟨i, hi, rfl⟩ := List.mem_iff_getElem.1 hy
      exact (hat i _ (List.getElem?_eq_getElem hi)).2
theorem light_of {H : Type} {P : Program} {ts : List TypeId} {ds : List (DataW H)} (h : (DataW.weightsEach P ts ds).all (· ≤ reachBytes) = true) {j : Nat} {t : TypeId} {d : DataW H} (ht : ts[j]? = some t) (hd : ds[j]? = some d) : Light P t d := fun x hx => by
  have := List.all_eq_true.1 h x (DataW.weights_mem_each ht hd x hx)
  simpa using this
end Go.Proofs.YtofegjgiocljlaaDoorH
end
section
namespace Go.Proofs.YtofegjgiocljlaaDoorH
open Go
variable {H : Type} {enc : TypeId × Value → H}
theorem returns_and_shaped {a : Assume} {C : Checked} {os : Os} {f : FuncId} {fn : Func} {s : ChangeSpec} {conds : List PathCond} {apart fresh handsOn again : Bool} {X : World → Array Value → Prop}
    (hX : ∀ (w w' : World) (args : Array Value), w.heap = w'.heap → X w args → X w' args)
    (own : ownKnob C.prog.godebug = none) (started : os.Started) (noInit : C.prog.inits.idxOf? f = none) (hfn : C.prog.funcs[f]? = some fn)
    (witness : ∃ (w : World) (tape : Tape) (i : Input), w.os = os ∧ (w.forCall tape i).Shaped C.prog ∧ i.vars = [] ∧ Input.okWide C.prog (w.forCall tape i) .any w.heap.size f i ∧
      ((s.pre enc C.prog fn conds apart (w.forCall tape i).memory i.args ∧ X (w.forCall tape i).memory i.args) ∧ sizedMet enc C.prog fn (OpenSpec.ofChange s) apart (w.forCall tape i).memory i.args) ∧ a.holds C.prog (lone (Frame.enter C.prog f i.args .normal) [] (w.forCall tape i)))
    (contract : ∀ (W : World) (base : Nat) (args : Array Value) (ds gs : List (DataW H)) (before : List MemPlace),
      (∀ (j : Nat) t v, fn.params[j]? = some t → args[j]? = some v → Value.okWide C.prog W .any base t v) →
      DataW.Whole enc C.prog fn.params.toList s.vars apart W args.toList ds gs before →
      conds.all (PathCond.test C.prog ⟨fn.params.toList, ds, s.plain.varTypes C.prog, gs⟩) = true →
      (DataW.weightsEach C.prog (fn.params.toList ++ s.plain.varTypes C.prog) (ds ++ gs)).all (· ≤ reachBytes) = true → X W args →
      W.ShapedOpen C.prog →
      a.holds C.prog (lone (Frame.enter C.prog f args .normal) [] W) →
      Calls C.prog f args W fun e W' => ∃ v, e = .returned v ∧ s.post enc C.prog fn apart fresh handsOn again W args v W') :
    ReturnsInHanded a C os f .any (fun w args => (s.pre enc C.prog fn conds apart w args ∧ X w args) ∧ sizedMet enc C.prog fn (OpenSpec.ofChange s) apart w args) (s.post enc C.prog fn apart fresh handsOn again) := by
  refine returnsInHanded_of_calls own started noInit witness ?_
  intro w tape i _ hsh _ hok hpre hholds
  obtain ⟨_, _, _, fn', hfn', _, _, _, _, hval⟩ := hok
  have e : fn' = fn := Option.some.inj (hfn'.symm.trans hfn)
  subst e
  obtain ⟨⟨⟨ds, gs, before, hw, hc⟩, hx⟩, hz⟩ := hpre
  have hw' := DataW.Whole.of_heap (w' := w.forCall tape i) (by rfl) hw
  refine (contract (w.forCall tape i) w.heap.size i.args ds gs before hval hw' hc (hz.weights hw) (hX _ _ _ (by rfl) hx) hsh hholds).mono fun e W' ⟨v, he, hp⟩ => ?_
  subst he
  exact ChangeSpec.post_blind hp
end Go.Proofs.YtofegjgiocljlaaDoorH
end
