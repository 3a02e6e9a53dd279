import Derived.Test.YtofegjgiocljlaaDoorZListAgainP1
import Derived.Test.YtofegjgiocljlaaDoorZListAgainP4
import Derived.Test.YtofegjgiocljlaaDoorZListAgainP2
import Derived.Test.YtofegjgiocljlaaDoorZListAgainP3
import Derived.Test.YtofegjgiocljlaaDoorRows
import Derived.LaidSub
import Derived.MakeChecks
import Derived.ProofKit
import Derived.OpenShut
import Derived.LaidMore
import Derived.Deep.Slices
import Derived.SizedLaws
import Derived.HandedShaped
import Derived.Handed
section
namespace Go.Proofs.YtofegjgiocljlaaDoor.Pr
open Go.RowKit Go.Proofs.YtofegjgiocljlaaDoorH Go.Proofs.YtofegjgiocljlaaDoorW.PrintWords Go.Proofs.YtofegjgiocljlaaDoorW.PrintLast Go.Proofs.YtofegjgiocljlaaDoorW.PrintMore
attribute [local go_sem] max2_int min2_int max_two min_two max_three min_three max_four min_four   -- for this text's walks alone
set_option linter.unusedVariables false
set_option linter.unusedSimpArgs false
mutual
def catchpitlaw07_ListAgain.l0 : Nat → Int → Int → ByteArray → Int → Option (Bool)
  | 0, _, _, _, _ => none
  | k + 1, x0, x1, x5, x6 => if x6 > 0 then ((some (([(IntKind.u64.wrap (48 + (Int.tmod x6 10))) % 256] : List Int) : List Int)).bind fun y236 => (if (strOfNums y236).size + x5.size ≤ 9223372036854775807 then (catchpitlaw07_ListAgain.l0 k x0 x1 ((strOfNums y236) ++ x5) (IntKind.u64.wrap (Int.tdiv x6 10))) else (none))) else (if x5.toList = ([] : List UInt8) then ((some (([(IntKind.u64.wrap (48 + (Int.tmod x6 10))) % 256] : List Int) : List Int)).bind fun y239 => (if (strOfNums y239).size + x5.size ≤ 9223372036854775807 then (catchpitlaw07_ListAgain.l0 k x0 x1 ((strOfNums y239) ++ x5) (IntKind.u64.wrap (Int.tdiv x6 10))) else (none))) else (catchpitlaw07_ListAgain.l1 k x0 x5 ([] : List ByteArray) x5 (Int.tmod (wrap64 (x1)) 4) 0))
def catchpitlaw07_ListAgain.l1 : Nat → Int → ByteArray → List ByteArray → ByteArray → Int → Int → Option (Bool)
  | 0, _, _, _, _, _, _ => none
  | k + 1, x0, x5, x7, x8, x33, x34 => if x34 < x33 then (if x7.length < 8796093022208 then (if 2 + x5.size ≤ 9223372036854775807 then (if x8.size + ((⟨#[44, 32]⟩ : ByteArray) ++ x5).size ≤ 9223372036854775807 then (catchpitlaw07_ListAgain.l1 k x0 x5 (x7 ++ [x5]) (x8 ++ ((⟨#[44, 32]⟩ : ByteArray) ++ x5)) x33 (wrap64 (x34 + 1))) else (none)) else (none)) else (none)) else (if x7.length < 8796093022208 then ((list_Length.f (x7 ++ [x8])).bind fun bt248 => (if x0 > 4611686018427387903 then (if bt248.2 = 3 then (some true) else (if x0 ≤ 4611686018427387903 then (if bt248.2 = 0 then (some (bt248.1 == x0)) else (some false)) else (some false))) else (if x0 ≤ 4611686018427387903 then (if bt248.2 = 0 then (some (bt248.1 == x0)) else (some false)) else (some false)))) else (none))
end
def catchpitlaw07_ListAgain.f (k : Nat) (a0 : Int) (a1 : Int) : Option (Bool) := (catchpitlaw07_wakes.f k).bind fun t235 => (if t235 = true then (catchpitlaw07_ListAgain.l0 k a0 a1 (⟨#[]⟩ : ByteArray) a0) else (some false))
theorem catchpitlaw07_ListAgain.mono_l : ∀ k, (∀ y0 y1 y2 y3, LeO (catchpitlaw07_ListAgain.l0 k y0 y1 y2 y3) (catchpitlaw07_ListAgain.l0 (k + 1) y0 y1 y2 y3)) ∧ (∀ y0 y1 y2 y3 y4 y5, LeO (catchpitlaw07_ListAgain.l1 k y0 y1 y2 y3 y4 y5) (catchpitlaw07_ListAgain.l1 (k + 1) y0 y1 y2 y3 y4 y5))
  | 0 => ⟨fun _ _ _ _ r h => by simp [catchpitlaw07_ListAgain.l0] at h, fun _ _ _ _ _ _ r h => by simp [catchpitlaw07_ListAgain.l1] at h⟩
  | k + 1 => by
    obtain ⟨ih0, ih1⟩ := catchpitlaw07_ListAgain.mono_l k
    refine ⟨?_, ?_⟩
    · intro y0 y1 y2 y3
      unfold catchpitlaw07_ListAgain.l0
      repeat' first
      | (with_reducible exact ih0 _ _ _ _)
      | (with_reducible exact ih1 _ _ _ _ _ _)
      | (with_reducible exact catchpitlaw07_wakes.mono _)
      | (with_reducible exact LeO.refl _)
      | (with_reducible exact LeO.none _)
      | (with_reducible refine LeO.ite ?_ ?_)
      | (with_reducible refine LeO.bind ?_ (fun _ => ?_))
      | exact ih0 _ _ _ _
      | exact ih1 _ _ _ _ _ _
      | exact catchpitlaw07_wakes.mono _
      | exact LeO.none _
      | refine LeO.ite ?_ ?_
      | refine LeO.bind ?_ (fun _ => ?_)
    · intro y0 y1 y2 y3 y4 y5
      unfold catchpitlaw07_ListAgain.l1
      repeat' first
      | (with_reducible exact ih0 _ _ _ _)
      | (with_reducible exact ih1 _ _ _ _ _ _)
      | (with_reducible exact catchpitlaw07_wakes.mono _)
      | (with_reducible exact LeO.refl _)
      | (with_reducible exact LeO.none _)
      | (with_reducible refine LeO.ite ?_ ?_)
      | (with_reducible refine LeO.bind ?_ (fun _ => ?_))
      | exact ih0 _ _ _ _
      | exact ih1 _ _ _ _ _ _
      | exact catchpitlaw07_wakes.mono _
      | exact LeO.none _
      | refine LeO.ite ?_ ?_
      | refine LeO.bind ?_ (fun _ => ?_)
theorem catchpitlaw07_ListAgain.mono : ∀ a0 a1 k, LeO (catchpitlaw07_ListAgain.f k a0 a1) (catchpitlaw07_ListAgain.f (k + 1) a0 a1) := by
  intro a0 a1 k
  obtain ⟨ih0, ih1⟩ := catchpitlaw07_ListAgain.mono_l k
  unfold catchpitlaw07_ListAgain.f
  repeat' first
      | (with_reducible exact ih0 _ _ _ _)
      | (with_reducible exact ih1 _ _ _ _ _ _)
      | (with_reducible exact catchpitlaw07_wakes.mono _)
      | (with_reducible exact LeO.refl _)
      | (with_reducible exact LeO.none _)
      | (with_reducible refine LeO.ite ?_ ?_)
      | (with_reducible refine LeO.bind ?_ (fun _ => ?_))
      | exact ih0 _ _ _ _
      | exact ih1 _ _ _ _ _ _
      | exact catchpitlaw07_wakes.mono _
      | exact LeO.none _
      | refine LeO.ite ?_ ?_
      | refine LeO.bind ?_ (fun _ => ?_)
set_option maxHeartbeats 8000000 in
set_option maxRecDepth 100000 in
theorem catchpitlaw07_ListAgain.calls (k : Nat) (a0 : Int) (a1 : Int) (r : Bool) (w : World) (hG : TabOk w) (h : catchpitlaw07_ListAgain.f k a0 a1 = some r) :
    Calls Tryd.prog 10 #[.int .u64 a0, .int .u8 a1] w fun e w' => e = .returned (.bool r) ∧ Below w.heap.size w w' := by
  have HB := Aside0.mk (Below.refl w.heap.size w)
  have H : ((catchpitlaw07_wakes.f k).bind fun t235 => (if t235 = true then (catchpitlaw07_ListAgain.l0 k a0 a1 (⟨#[]⟩ : ByteArray) a0) else (some false))) = some r := h
  clear h
  replace H := Option.bind_eq_some_iff.mp H
  obtain ⟨t235, A30, H⟩ := H
  replace H : (if t235 = true then (catchpitlaw07_ListAgain.l0 k a0 a1 (⟨#[]⟩ : ByteArray) a0) else (some false)) = some r := H
  have A3 := Aside0.mk A30
  clear A30
  by_cases c4 : t235 = true
  · subst c4
    have H1 : (catchpitlaw07_ListAgain.l0 k a0 a1 (⟨#[]⟩ : ByteArray) a0) = some r := by rw [if_pos rfl] at H; exact H
    clear H
    have H := H1
    clear H1
    have H' := Aside0.mk H
    clear H
    go_enter Tryd.func10, Tryd.ntmps10
    go_wp2_with (first | ((with_reducible refine gate_callee (f := 25) rfl ?_); refine goesL_ (some 11) rfl rfl Tryd.func25 (by kernel_rfl) rfl #[] rfl (by (try simp only [List.map_toArray, List.map_cons, List.map_nil]); first | done | rfl | (simp only [List.length_drop, List.length_take]; rfl)) ?_; (with_reducible refine (catchpitlaw07_wakes.calls k  true _ ?side1 A3.out).mono ?_); (case side1 => first | exact hG | exact TabOk.drewN hG _ | exact TabOk.drewN (TabOk.drewN hG _) _ | exact TabOk.below hG (by repeat (first | (with_reducible first | exact HB.out | apply below_alloc | apply pw_below_drewN | apply below_drew1) | exact HB.out))); rintro e w5 ⟨rfl, hb⟩; refine ⟨_, rfl, ?_⟩; have n0_ := Aside0.mk (below_step (by repeat (first | (with_reducible first | exact HB.out | apply below_alloc | apply pw_below_drewN | apply below_drew1) | exact HB.out)) hb); clear HB; have HB := n0_; clear n0_; (try clear hb); (try clear hb2); (try clear hk); (try clear hi)))
    go_loopg [5, 6] k (fun kq v5 v6 w' => ∃ (x5_1 : ByteArray) (x6_1 : Int), v5 = .string x5_1 ∧ v6 = .int .u64 x6_1 ∧ Aside0 (catchpitlaw07_ListAgain.l0 kq a0 a1 x5_1 x6_1 = some r) ∧ Aside0 (kq ≤ k) ∧ Aside0 (Below w.heap.size w w'))
    case atStart => exact ⟨((⟨#[]⟩ : ByteArray)), (a0), (by first | rfl | (simp; done) | (simp [*]; done)), (by first | rfl | (simp; done) | (simp [*]; done)), H', ⟨Nat.le_refl _⟩, ⟨by repeat (first | (with_reducible first | exact HB.out | apply below_alloc | apply pw_below_drewN | apply below_drew1) | exact HB.out)⟩⟩
    case round =>
      clear H'
      try clear c1
      try clear c2
      try clear p2
      try clear c4
      obtain ⟨x5_1, x6_1, rfl, rfl, HA, HK1, HB⟩ := hrel
      cases gk with
      | zero => exact absurd HA.out (by simp [catchpitlaw07_ListAgain.l0])
      | succ k1 =>
        have H := HA.out
        clear HA
        simp only [catchpitlaw07_ListAgain.l0] at H
        by_cases c6 : x6_1 > 0
        · rw [if_pos c6] at H
          have c6b0 : decide (0 < x6_1) = true := decide_eq_true c6
          clear c6
          obtain ⟨y236, hy236⟩ : ∃ y_ : List Int, y_ = (([(IntKind.u64.wrap (48 + (Int.tmod x6_1 10))) % 256] : List Int)) := ⟨_, rfl⟩
          replace H : (if (strOfNums y236).size + x5_1.size ≤ 9223372036854775807 then (catchpitlaw07_ListAgain.l0 k1 a0 a1 ((strOfNums y236) ++ x5_1) (IntKind.u64.wrap (Int.tdiv x6_1 10))) else (none)) = some r := by first | (rw [hy236]; with_reducible exact H) | (have H2_ := (Option.bind_some _ _).symm.trans H; rw [hy236]; with_reducible exact H2_) | (have H2_ := (Option.bind_some _ _).symm.trans H; with_reducible exact H2_) | with_reducible exact H | (rw [hy236]; exact H) | exact H
          have Ny236 := Aside0.mk hy236
          clear hy236
          by_cases c7 : (strOfNums y236).size + x5_1.size ≤ 9223372036854775807
          · rw [if_pos c7] at H
            have c7b0 := eq_true c7
            have c7b1 : decide ((strOfNums y236).size + x5_1.size ≤ 9223372036854775807) = true := decide_eq_true c7
            try have c7b2 : (9223372036854775807 < (strOfNums y236).size + x5_1.size) = False := eq_false (Nat.not_lt.2 c7)
            have H' := Aside0.mk H
            clear H
            go_wp2_with (first | ((with_reducible refine gate_dst (N := 26) rfl ?_); refine Kd.R_lit (Kd.int .u8) _ 5 ?hg (N := 26) ?hd (xs := ([(IntKind.u64.wrap (48 + (Int.tmod x6_1 10))) % 256] : List Int)) (inner := [.int .u8 ((IntKind.u64.wrap (48 + (Int.tmod x6_1 10))) % 256)]) (ok := fun _ => True) (okp := fun _ => True) ?hr ?hp (fun _ hk => hk) trivial (Below.refl _ _) (Nat.le_refl _) (by simp) ?_; (case hd => rfl); (case hg => rfl); (case hr => first | (go_simp; done) | (go_simp; rfl)); (case hp => exact (Reps.one (show Kd.M (Kd.int .u8) _ _ _ ((IntKind.u64.wrap (48 + (Int.tmod x6_1 10))) % 256) [.int .u8 ((IntKind.u64.wrap (48 + (Int.tmod x6_1 10))) % 256)] from rfl) (Reps.none _ _))); intro v237 w8 ho9 hb hg_ hnew_; clear hg_ hnew_; (first | rw [← Ny236.out] at ho9 | (simp only [Int.reduceToNat] at ho9; rw [← Ny236.out] at ho9)); have n0_ := Aside0.mk (Kd.R_lower ho9 (below_size (by repeat (first | (with_reducible first | exact HB.out | apply below_alloc | apply pw_below_drewN | apply below_drew1) | exact HB.out)))); have n1_ := Aside0.mk (below_step (by repeat (first | (with_reducible first | exact HB.out | apply below_alloc | apply pw_below_drewN | apply below_drew1) | exact HB.out)) hb); clear HB; have HO238 := n0_; have HB := n1_; clear n0_ n1_; clear hb ho9; have hcv10 := own_string (P := Tryd.prog) Tryd.underlying61 Tryd.underlying5 Tryd.underlying9 (Kd.own_of_R HO238.out)))
            go_roundg k1
            case measure => have := HK1.out; omega
            case rel => exact ⟨((strOfNums y236) ++ x5_1), (IntKind.u64.wrap (Int.tdiv x6_1 10)), (by first | rfl | (simp; done) | (simp [*]; done)), (by first | rfl | (simp; done) | (simp [*]; done)), H', ⟨by have := HK1.out; omega⟩, ⟨by repeat (first | (with_reducible first | exact HB.out | apply below_alloc | apply pw_below_drewN | apply below_drew1) | exact HB.out)⟩⟩
          · rw [if_neg c7] at H
            exact absurd H (by simp)
        · rw [if_neg c6] at H
          have c6b0 : decide (0 < x6_1) = false := decide_eq_false c6
          clear c6
          by_cases c11 : x5_1.toList = ([] : List UInt8)
          · rw [if_pos c11] at H
            have c11b0 : (x5_1.toList == ([] : List UInt8)) = true := beq_iff_eq.mpr c11
            have c11b1 : (x5_1.toList != ([] : List UInt8)) = false := bne_eq_false_iff_eq.mpr c11
            clear c11
            obtain ⟨y239, hy239⟩ : ∃ y_ : List Int, y_ = (([(IntKind.u64.wrap (48 + (Int.tmod x6_1 10))) % 256] : List Int)) := ⟨_, rfl⟩
            replace H : (if (strOfNums y239).size + x5_1.size ≤ 9223372036854775807 then (catchpitlaw07_ListAgain.l0 k1 a0 a1 ((strOfNums y239) ++ x5_1) (IntKind.u64.wrap (Int.tdiv x6_1 10))) else (none)) = some r := by first | (rw [hy239]; with_reducible exact H) | (have H2_ := (Option.bind_some _ _).symm.trans H; rw [hy239]; with_reducible exact H2_) | (have H2_ := (Option.bind_some _ _).symm.trans H; with_reducible exact H2_) | with_reducible exact H | (rw [hy239]; exact H) | exact H
            have Ny239 := Aside0.mk hy239
            clear hy239
            by_cases c12 : (strOfNums y239).size + x5_1.size ≤ 9223372036854775807
            · rw [if_pos c12] at H
              have c12b0 := eq_true c12
              have c12b1 : decide ((strOfNums y239).size + x5_1.size ≤ 9223372036854775807) = true := decide_eq_true c12
              try have c12b2 : (9223372036854775807 < (strOfNums y239).size + x5_1.size) = False := eq_false (Nat.not_lt.2 c12)
              have H' := Aside0.mk H
              clear H
              go_wp2_with (first | ((with_reducible refine gate_dst (N := 26) rfl ?_); refine Kd.R_lit (Kd.int .u8) _ 5 ?hg (N := 26) ?hd (xs := ([(IntKind.u64.wrap (48 + (Int.tmod x6_1 10))) % 256] : List Int)) (inner := [.int .u8 ((IntKind.u64.wrap (48 + (Int.tmod x6_1 10))) % 256)]) (ok := fun _ => True) (okp := fun _ => True) ?hr ?hp (fun _ hk => hk) trivial (Below.refl _ _) (Nat.le_refl _) (by simp) ?_; (case hd => rfl); (case hg => rfl); (case hr => first | (go_simp; done) | (go_simp; rfl)); (case hp => exact (Reps.one (show Kd.M (Kd.int .u8) _ _ _ ((IntKind.u64.wrap (48 + (Int.tmod x6_1 10))) % 256) [.int .u8 ((IntKind.u64.wrap (48 + (Int.tmod x6_1 10))) % 256)] from rfl) (Reps.none _ _))); intro v240 w13 ho14 hb hg_ hnew_; clear hg_ hnew_; (first | rw [← Ny239.out] at ho14 | (simp only [Int.reduceToNat] at ho14; rw [← Ny239.out] at ho14)); have n0_ := Aside0.mk (Kd.R_lower ho14 (below_size (by repeat (first | (with_reducible first | exact HB.out | apply below_alloc | apply pw_below_drewN | apply below_drew1) | exact HB.out)))); have n1_ := Aside0.mk (below_step (by repeat (first | (with_reducible first | exact HB.out | apply below_alloc | apply pw_below_drewN | apply below_drew1) | exact HB.out)) hb); clear HB; have HO241 := n0_; have HB := n1_; clear n0_ n1_; clear hb ho14; have hcv15 := own_string (P := Tryd.prog) Tryd.underlying61 Tryd.underlying5 Tryd.underlying9 (Kd.own_of_R HO241.out)))
              go_roundg k1
              case measure => have := HK1.out; omega
              case rel => exact ⟨((strOfNums y239) ++ x5_1), (IntKind.u64.wrap (Int.tdiv x6_1 10)), (by first | rfl | (simp; done) | (simp [*]; done)), (by first | rfl | (simp; done) | (simp [*]; done)), H', ⟨by have := HK1.out; omega⟩, ⟨by repeat (first | (with_reducible first | exact HB.out | apply below_alloc | apply pw_below_drewN | apply below_drew1) | exact HB.out)⟩⟩
            · rw [if_neg c12] at H
              exact absurd H (by simp)
          · rw [if_neg c11] at H
            have c11b0 : (x5_1.toList == ([] : List UInt8)) = false := beq_eq_false_iff_ne.mpr c11
            have c11b1 : (x5_1.toList != ([] : List UInt8)) = true := bne_iff_ne.mpr c11
            have H' := Aside0.mk H
            clear H
            go_wp2
            go_loopg [7, 8, 34] k1 (fun kq v7 v8 v34 w' => ∃ (x7_2 : List ByteArray) (x8_2 : ByteArray) (x34_2 : Int), v8 = .string x8_2 ∧ v34 = .int .i64 x34_2 ∧ Aside0 (catchpitlaw07_ListAgain.l1 kq a0 x5_1 x7_2 x8_2 (Int.tmod (wrap64 (a1)) 4) x34_2 = some r) ∧ Aside0 (kq ≤ k1) ∧ Aside0 (Kd.R Kd.string 9 w' w.heap.size (fun _ => True) v7 x7_2) ∧ Aside0 (Below w.heap.size w w'))
            case atStart => exact ⟨(([] : List ByteArray)), (x5_1), (0), (by first | rfl | (simp; done) | (simp [*]; done)), (by first | rfl | (simp; done) | (simp [*]; done)), H', ⟨Nat.le_refl _⟩, ⟨by first | exact Kd.R_nil _ _ _ _ _ | exact Kd.N_nil _ _ _ _ _ | exact Kd.V_nil _ _ _ _ _ | exact Kd.Q_nil _ _ _ _ _ | exact Kd.S_nil _ _ _ _ _⟩, ⟨by repeat (first | (with_reducible first | exact HB.out | apply below_alloc | apply pw_below_drewN | apply below_drew1) | exact HB.out)⟩⟩
            case round =>
              clear H'
              try clear c1
              try clear hcv1
              try clear c2
              try clear p2
              try clear c4
              try clear c6
              try clear c6b0
              try clear p6
              try clear c7
              try clear c7b0
              try clear c7b1
              try clear c7b2
              try clear c10
              try clear hcv10
              try clear c11
              try clear c11b0
              try clear c11b1
              try clear c12
              try clear c12b0
              try clear c12b1
              try clear c12b2
              try clear hcv15
              try clear p2
              obtain ⟨x7_2, x8_2, x34_2, rfl, rfl, HA, HK2, HO_7, HB⟩ := hrel
              cases gk with
              | zero => exact absurd HA.out (by simp [catchpitlaw07_ListAgain.l1])
              | succ k2 =>
                have H := HA.out
                clear HA
                simp only [catchpitlaw07_ListAgain.l1] at H
                by_cases c16 : x34_2 < (Int.tmod (wrap64 (a1)) 4)
                · rw [if_pos c16] at H
                  have c16b0 : decide (x34_2 < (Int.tmod (wrap64 (a1)) 4)) = true := decide_eq_true c16
                  clear c16
                  by_cases c17 : x7_2.length < 8796093022208
                  · rw [if_pos c17] at H
                    have LMc17 := Aside0.mk c17
                    clear c17
                    obtain ⟨y242, hy242⟩ : ∃ y_ : List ByteArray, y_ = (x7_2 ++ [x5_1]) := ⟨_, rfl⟩
                    replace H : (if 2 + x5_1.size ≤ 9223372036854775807 then (if x8_2.size + ((⟨#[44, 32]⟩ : ByteArray) ++ x5_1).size ≤ 9223372036854775807 then (catchpitlaw07_ListAgain.l1 k2 a0 x5_1 y242 (x8_2 ++ ((⟨#[44, 32]⟩ : ByteArray) ++ x5_1)) (Int.tmod (wrap64 (a1)) 4) (wrap64 (x34_2 + 1))) else (none)) else (none)) = some r := by first | (rw [hy242]; with_reducible exact H) | (have H2_ := (Option.bind_some _ _).symm.trans H; rw [hy242]; with_reducible exact H2_) | (have H2_ := (Option.bind_some _ _).symm.trans H; with_reducible exact H2_) | with_reducible exact H | (rw [hy242]; exact H) | exact H
                    have Ny242 := Aside0.mk hy242
                    clear hy242
                    by_cases c18 : 2 + x5_1.size ≤ 9223372036854775807
                    · rw [if_pos c18] at H
                      have c18b0 := eq_true c18
                      have c18b1 : decide (2 + x5_1.size ≤ 9223372036854775807) = true := decide_eq_true c18
                      try have c18b2 : (9223372036854775807 < 2 + x5_1.size) = False := eq_false (Nat.not_lt.2 c18)
                      by_cases c19 : x8_2.size + ((⟨#[44, 32]⟩ : ByteArray) ++ x5_1).size ≤ 9223372036854775807
                      · rw [if_pos c19] at H
                        have c19b0 := eq_true c19
                        try simp only [ByteArray.size_append, ByteArray.size_extract, Nat.min_self] at c19b0
                        have c19b1 : decide (x8_2.size + ((⟨#[44, 32]⟩ : ByteArray) ++ x5_1).size ≤ 9223372036854775807) = true := decide_eq_true c19
                        try simp only [ByteArray.size_append, ByteArray.size_extract, Nat.min_self] at c19b1
                        try have c19b2 : (9223372036854775807 < x8_2.size + ((⟨#[44, 32]⟩ : ByteArray) ++ x5_1).size) = False := eq_false (Nat.not_lt.2 c19)
                        try simp only [ByteArray.size_append, ByteArray.size_extract, Nat.min_self] at c19b2
                        have H' := Aside0.mk H
                        clear H
                        go_wp2_with (first | ((with_reducible refine gate_builtin (b := .append) (xs := #[.tmp 36, .tmp 38]) rfl ?_); at_builtin; refine Kd.R_append Kd.string (w0 := w) w.heap.size rfl (.tmp 36) (.tmp 38) 40 9 (.string ⟨#[]⟩) 16 rfl Tryd.underlying40 info9 rfl (by decide) (by omega) u7 x7_2 x5_1 [.string x5_1] (fun _ => True) (fun _ => False) rfl rfl ?aP (fun _ hk => hk.elim) ?aF ?aO ?aB ?aS ?aL ?_; (case aP => exact rfl); (case aB => exact (by repeat (first | (with_reducible first | exact HB.out | apply below_alloc | apply pw_below_drewN | apply below_drew1) | exact HB.out))); (case aF => exact (fun _ _ => trivial)); (case aO => exact (by (with_reducible repeat (first | apply Kd.R_alloc | apply Kd.R_drewN | apply Kd.R_drew)); exact HO_7.out)); (case aS => exact (below_size (by repeat (first | (with_reducible first | exact HB.out | apply below_alloc | apply pw_below_drewN | apply below_drew1) | exact HB.out)))); (case aL => have := LMc17.out; omega); intro v243 w20 ho hb hg hat; rw [← Ny242.out] at ho; have n0_ := Aside0.mk (hb); have n1_ := Aside0.mk (ho); clear HB; clear HO_7; have HB := n0_; have HO244 := n1_; clear n0_ n1_; clear ho hb hg hat))
                        go_roundg k2
                        case measure => have := HK1.out; have := HK2.out; omega
                        case rel => exact ⟨(y242), (x8_2 ++ ((⟨#[44, 32]⟩ : ByteArray) ++ x5_1)), (wrap64 (x34_2 + 1)), (by first | rfl | (simp; done) | (simp [*]; done)), (by first | rfl | (simp; done) | (simp [*]; done)), H', ⟨by have := HK1.out; have := HK2.out; omega⟩, ⟨by (with_reducible repeat (first | apply Kd.R_alloc | apply Kd.R_drewN | apply Kd.R_drew)); exact HO244.out⟩, ⟨by repeat (first | (with_reducible first | exact HB.out | apply below_alloc | apply pw_below_drewN | apply below_drew1) | exact HB.out)⟩⟩
                      · rw [if_neg c19] at H
                        exact absurd H (by simp)
                    · rw [if_neg c18] at H
                      exact absurd H (by simp)
                  · rw [if_neg c17] at H
                    exact absurd H (by simp)
                · rw [if_neg c16] at H
                  have c16b0 : decide (x34_2 < (Int.tmod (wrap64 (a1)) 4)) = false := decide_eq_false c16
                  clear c16
                  by_cases c21 : x7_2.length < 8796093022208
                  · rw [if_pos c21] at H
                    have LMc21 := Aside0.mk c21
                    clear c21
                    obtain ⟨y245, hy245⟩ : ∃ y_ : List ByteArray, y_ = (x7_2 ++ [x8_2]) := ⟨_, rfl⟩
                    replace H : ((list_Length.f y245).bind fun bt248 => (if a0 > 4611686018427387903 then (if bt248.2 = 3 then (some true) else (if a0 ≤ 4611686018427387903 then (if bt248.2 = 0 then (some (bt248.1 == a0)) else (some false)) else (some false))) else (if a0 ≤ 4611686018427387903 then (if bt248.2 = 0 then (some (bt248.1 == a0)) else (some false)) else (some false)))) = some r := by first | (rw [hy245]; with_reducible exact H) | (have H2_ := (Option.bind_some _ _).symm.trans H; rw [hy245]; with_reducible exact H2_) | (have H2_ := (Option.bind_some _ _).symm.trans H; with_reducible exact H2_) | with_reducible exact H | (rw [hy245]; exact H) | exact H
                    have Ny245 := Aside0.mk hy245
                    clear hy245
                    replace H := Option.bind_eq_some_iff.mp H
                    obtain ⟨⟨t248, t249⟩, A220, H⟩ := H
                    replace H : (if a0 > 4611686018427387903 then (if t249 = 3 then (some true) else (if a0 ≤ 4611686018427387903 then (if t249 = 0 then (some (t248 == a0)) else (some false)) else (some false))) else (if a0 ≤ 4611686018427387903 then (if t249 = 0 then (some (t248 == a0)) else (some false)) else (some false))) = some r := H
                    have A22 := Aside0.mk A220
                    clear A220
                    by_cases c23 : a0 > 4611686018427387903
                    · rw [if_pos c23] at H
                      have c23b0 : decide (4611686018427387903 < a0) = true := decide_eq_true c23
                      clear c23
                      by_cases c24 : t249 = 3
                      · rw [if_pos c24] at H
                        have c24b0 : (t249 == 3) = true := beq_iff_eq.mpr c24
                        have c24b1 : (t249 != 3) = false := bne_eq_false_iff_eq.mpr c24
                        clear c24
                        obtain rfl := Option.some.inj H
                        go_wp2_with (first | ((with_reducible refine gate_builtin (b := .append) (xs := #[.tmp 45, .tmp 47]) rfl ?_); at_builtin; refine Kd.R_append Kd.string (w0 := w) w.heap.size rfl (.tmp 45) (.tmp 47) 40 9 (.string ⟨#[]⟩) 16 rfl Tryd.underlying40 info9 rfl (by decide) (by omega) u7 x7_2 x8_2 [.string x8_2] (fun _ => True) (fun _ => False) rfl rfl ?aP (fun _ hk => hk.elim) ?aF ?aO ?aB ?aS ?aL ?_; (case aP => exact rfl); (case aB => exact (by repeat (first | (with_reducible first | exact HB.out | apply below_alloc | apply pw_below_drewN | apply below_drew1) | exact HB.out))); (case aF => exact (fun _ _ => trivial)); (case aO => exact (by (with_reducible repeat (first | apply Kd.R_alloc | apply Kd.R_drewN | apply Kd.R_drew)); exact HO_7.out)); (case aS => exact (below_size (by repeat (first | (with_reducible first | exact HB.out | apply below_alloc | apply pw_below_drewN | apply below_drew1) | exact HB.out)))); (case aL => have := LMc21.out; omega); intro v246 w25 ho hb hg hat; rw [← Ny245.out] at ho; have n0_ := Aside0.mk (hb); have n1_ := Aside0.mk (ho); clear HB; clear HO_7; have HB := n0_; have HO247 := n1_; clear n0_ n1_; clear ho hb hg hat; obtain ⟨Ao26, co26, eo26⟩ := Kd.R_slice HO247.out; subst eo26) | ((with_reducible refine gate_callee (f := 27) rfl ?_); refine goesL_ (some 51) rfl rfl Tryd.func27 (by kernel_rfl) rfl #[.slice Ao26 y245.length co26] rfl (by (try simp only [List.map_toArray, List.map_cons, List.map_nil]); first | done | rfl | (simp only [List.length_drop, List.length_take]; rfl)) ?_; (with_reducible refine (list_Length.calls _ _ y245 t248 t249 _ ?side1 ?side2 ?side3 A22.out).mono ?_); (case side1 => repeat (first | exact (Kd.R_reads' HO247.out).2.2 | (with_reducible refine Kd.C_alloc ?_ _) | (with_reducible refine Kd.C_drewN ?_ _) | (with_reducible refine Kd.C_drew ?_))); (case side2 => exact (Kd.R_reads' HO247.out).2.1); (case side3 => first | exact hG | exact TabOk.drewN hG _ | exact TabOk.drewN (TabOk.drewN hG _) _ | exact TabOk.below hG (by repeat (first | (with_reducible first | exact HB.out | apply below_alloc | apply pw_below_drewN | apply below_drew1) | exact HB.out))); rintro e w27 ⟨rfl, hb⟩; refine ⟨_, rfl, ?_⟩; have n0_ := Aside0.mk (Kd.R_below (by (with_reducible repeat (first | apply Kd.R_alloc | apply Kd.R_drewN | apply Kd.R_drew)); exact HO247.out) hb); have n1_ := Aside0.mk (below_step (by repeat (first | (with_reducible first | exact HB.out | apply below_alloc | apply pw_below_drewN | apply below_drew1) | exact HB.out)) hb); clear HO247; clear HB; have HO247 := n0_; have HB := n1_; clear n0_ n1_; (try clear hb); (try clear hb2); (try clear hk); (try clear hi)))
                        go_ret
                        exact ⟨by first | rfl | (simp [errW_none, errW_some] <;> rfl) | (simp [*, errW_none, errW_some] <;> rfl), by repeat (first | (with_reducible first | exact HB.out | apply below_alloc | apply pw_below_drewN | apply below_drew1) | exact HB.out)⟩
                      · rw [if_neg c24] at H
                        have c24b0 : (t249 == 3) = false := beq_eq_false_iff_ne.mpr c24
                        have c24b1 : (t249 != 3) = true := bne_iff_ne.mpr c24
                        by_cases c28 : a0 ≤ 4611686018427387903
                        · rw [if_pos c28] at H
                          have c28b0 : decide (a0 ≤ 4611686018427387903) = true := decide_eq_true c28
                          clear c28
                          by_cases c29 : t249 = 0
                          · rw [if_pos c29] at H
                            have c29b0 : (t249 == 0) = true := beq_iff_eq.mpr c29
                            have c29b1 : (t249 != 0) = false := bne_eq_false_iff_eq.mpr c29
                            clear c29
                            obtain rfl := Option.some.inj H
                            go_wp2_with (first | ((with_reducible refine gate_builtin (b := .append) (xs := #[.tmp 45, .tmp 47]) rfl ?_); at_builtin; refine Kd.R_append Kd.string (w0 := w) w.heap.size rfl (.tmp 45) (.tmp 47) 40 9 (.string ⟨#[]⟩) 16 rfl Tryd.underlying40 info9 rfl (by decide) (by omega) u7 x7_2 x8_2 [.string x8_2] (fun _ => True) (fun _ => False) rfl rfl ?aP (fun _ hk => hk.elim) ?aF ?aO ?aB ?aS ?aL ?_; (case aP => exact rfl); (case aB => exact (by repeat (first | (with_reducible first | exact HB.out | apply below_alloc | apply pw_below_drewN | apply below_drew1) | exact HB.out))); (case aF => exact (fun _ _ => trivial)); (case aO => exact (by (with_reducible repeat (first | apply Kd.R_alloc | apply Kd.R_drewN | apply Kd.R_drew)); exact HO_7.out)); (case aS => exact (below_size (by repeat (first | (with_reducible first | exact HB.out | apply below_alloc | apply pw_below_drewN | apply below_drew1) | exact HB.out)))); (case aL => have := LMc21.out; omega); intro v246 w30 ho hb hg hat; rw [← Ny245.out] at ho; have n0_ := Aside0.mk (hb); have n1_ := Aside0.mk (ho); clear HB; clear HO_7; have HB := n0_; have HO247 := n1_; clear n0_ n1_; clear ho hb hg hat; obtain ⟨Ao31, co31, eo31⟩ := Kd.R_slice HO247.out; subst eo31) | ((with_reducible refine gate_callee (f := 27) rfl ?_); refine goesL_ (some 51) rfl rfl Tryd.func27 (by kernel_rfl) rfl #[.slice Ao31 y245.length co31] rfl (by (try simp only [List.map_toArray, List.map_cons, List.map_nil]); first | done | rfl | (simp only [List.length_drop, List.length_take]; rfl)) ?_; (with_reducible refine (list_Length.calls _ _ y245 t248 t249 _ ?side1 ?side2 ?side3 A22.out).mono ?_); (case side1 => repeat (first | exact (Kd.R_reads' HO247.out).2.2 | (with_reducible refine Kd.C_alloc ?_ _) | (with_reducible refine Kd.C_drewN ?_ _) | (with_reducible refine Kd.C_drew ?_))); (case side2 => exact (Kd.R_reads' HO247.out).2.1); (case side3 => first | exact hG | exact TabOk.drewN hG _ | exact TabOk.drewN (TabOk.drewN hG _) _ | exact TabOk.below hG (by repeat (first | (with_reducible first | exact HB.out | apply below_alloc | apply pw_below_drewN | apply below_drew1) | exact HB.out))); rintro e w32 ⟨rfl, hb⟩; refine ⟨_, rfl, ?_⟩; have n0_ := Aside0.mk (Kd.R_below (by (with_reducible repeat (first | apply Kd.R_alloc | apply Kd.R_drewN | apply Kd.R_drew)); exact HO247.out) hb); have n1_ := Aside0.mk (below_step (by repeat (first | (with_reducible first | exact HB.out | apply below_alloc | apply pw_below_drewN | apply below_drew1) | exact HB.out)) hb); clear HO247; clear HB; have HO247 := n0_; have HB := n1_; clear n0_ n1_; (try clear hb); (try clear hb2); (try clear hk); (try clear hi)))
                            go_ret
                            exact ⟨by first | rfl | (simp [errW_none, errW_some] <;> rfl) | (simp [*, errW_none, errW_some] <;> rfl), by repeat (first | (with_reducible first | exact HB.out | apply below_alloc | apply pw_below_drewN | apply below_drew1) | exact HB.out)⟩
                          · rw [if_neg c29] at H
                            have c29b0 : (t249 == 0) = false := beq_eq_false_iff_ne.mpr c29
                            have c29b1 : (t249 != 0) = true := bne_iff_ne.mpr c29
                            obtain rfl := Option.some.inj H
                            go_wp2_with (first | ((with_reducible refine gate_builtin (b := .append) (xs := #[.tmp 45, .tmp 47]) rfl ?_); at_builtin; refine Kd.R_append Kd.string (w0 := w) w.heap.size rfl (.tmp 45) (.tmp 47) 40 9 (.string ⟨#[]⟩) 16 rfl Tryd.underlying40 info9 rfl (by decide) (by omega) u7 x7_2 x8_2 [.string x8_2] (fun _ => True) (fun _ => False) rfl rfl ?aP (fun _ hk => hk.elim) ?aF ?aO ?aB ?aS ?aL ?_; (case aP => exact rfl); (case aB => exact (by repeat (first | (with_reducible first | exact HB.out | apply below_alloc | apply pw_below_drewN | apply below_drew1) | exact HB.out))); (case aF => exact (fun _ _ => trivial)); (case aO => exact (by (with_reducible repeat (first | apply Kd.R_alloc | apply Kd.R_drewN | apply Kd.R_drew)); exact HO_7.out)); (case aS => exact (below_size (by repeat (first | (with_reducible first | exact HB.out | apply below_alloc | apply pw_below_drewN | apply below_drew1) | exact HB.out)))); (case aL => have := LMc21.out; omega); intro v246 w33 ho hb hg hat; rw [← Ny245.out] at ho; have n0_ := Aside0.mk (hb); have n1_ := Aside0.mk (ho); clear HB; clear HO_7; have HB := n0_; have HO247 := n1_; clear n0_ n1_; clear ho hb hg hat; obtain ⟨Ao34, co34, eo34⟩ := Kd.R_slice HO247.out; subst eo34) | ((with_reducible refine gate_callee (f := 27) rfl ?_); refine goesL_ (some 51) rfl rfl Tryd.func27 (by kernel_rfl) rfl #[.slice Ao34 y245.length co34] rfl (by (try simp only [List.map_toArray, List.map_cons, List.map_nil]); first | done | rfl | (simp only [List.length_drop, List.length_take]; rfl)) ?_; (with_reducible refine (list_Length.calls _ _ y245 t248 t249 _ ?side1 ?side2 ?side3 A22.out).mono ?_); (case side1 => repeat (first | exact (Kd.R_reads' HO247.out).2.2 | (with_reducible refine Kd.C_alloc ?_ _) | (with_reducible refine Kd.C_drewN ?_ _) | (with_reducible refine Kd.C_drew ?_))); (case side2 => exact (Kd.R_reads' HO247.out).2.1); (case side3 => first | exact hG | exact TabOk.drewN hG _ | exact TabOk.drewN (TabOk.drewN hG _) _ | exact TabOk.below hG (by repeat (first | (with_reducible first | exact HB.out | apply below_alloc | apply pw_below_drewN | apply below_drew1) | exact HB.out))); rintro e w35 ⟨rfl, hb⟩; refine ⟨_, rfl, ?_⟩; have n0_ := Aside0.mk (Kd.R_below (by (with_reducible repeat (first | apply Kd.R_alloc | apply Kd.R_drewN | apply Kd.R_drew)); exact HO247.out) hb); have n1_ := Aside0.mk (below_step (by repeat (first | (with_reducible first | exact HB.out | apply below_alloc | apply pw_below_drewN | apply below_drew1) | exact HB.out)) hb); clear HO247; clear HB; have HO247 := n0_; have HB := n1_; clear n0_ n1_; (try clear hb); (try clear hb2); (try clear hk); (try clear hi)))
                            go_ret
                            exact ⟨by first | rfl | (simp [errW_none, errW_some] <;> rfl) | (simp [*, errW_none, errW_some] <;> rfl), by repeat (first | (with_reducible first | exact HB.out | apply below_alloc | apply pw_below_drewN | apply below_drew1) | exact HB.out)⟩
                        · rw [if_neg c28] at H
                          have c28b0 : decide (a0 ≤ 4611686018427387903) = false := decide_eq_false c28
                          clear c28
                          obtain rfl := Option.some.inj H
                          go_wp2_with (first | ((with_reducible refine gate_builtin (b := .append) (xs := #[.tmp 45, .tmp 47]) rfl ?_); at_builtin; refine Kd.R_append Kd.string (w0 := w) w.heap.size rfl (.tmp 45) (.tmp 47) 40 9 (.string ⟨#[]⟩) 16 rfl Tryd.underlying40 info9 rfl (by decide) (by omega) u7 x7_2 x8_2 [.string x8_2] (fun _ => True) (fun _ => False) rfl rfl ?aP (fun _ hk => hk.elim) ?aF ?aO ?aB ?aS ?aL ?_; (case aP => exact rfl); (case aB => exact (by repeat (first | (with_reducible first | exact HB.out | apply below_alloc | apply pw_below_drewN | apply below_drew1) | exact HB.out))); (case aF => exact (fun _ _ => trivial)); (case aO => exact (by (with_reducible repeat (first | apply Kd.R_alloc | apply Kd.R_drewN | apply Kd.R_drew)); exact HO_7.out)); (case aS => exact (below_size (by repeat (first | (with_reducible first | exact HB.out | apply below_alloc | apply pw_below_drewN | apply below_drew1) | exact HB.out)))); (case aL => have := LMc21.out; omega); intro v246 w36 ho hb hg hat; rw [← Ny245.out] at ho; have n0_ := Aside0.mk (hb); have n1_ := Aside0.mk (ho); clear HB; clear HO_7; have HB := n0_; have HO247 := n1_; clear n0_ n1_; clear ho hb hg hat; obtain ⟨Ao37, co37, eo37⟩ := Kd.R_slice HO247.out; subst eo37) | ((with_reducible refine gate_callee (f := 27) rfl ?_); refine goesL_ (some 51) rfl rfl Tryd.func27 (by kernel_rfl) rfl #[.slice Ao37 y245.length co37] rfl (by (try simp only [List.map_toArray, List.map_cons, List.map_nil]); first | done | rfl | (simp only [List.length_drop, List.length_take]; rfl)) ?_; (with_reducible refine (list_Length.calls _ _ y245 t248 t249 _ ?side1 ?side2 ?side3 A22.out).mono ?_); (case side1 => repeat (first | exact (Kd.R_reads' HO247.out).2.2 | (with_reducible refine Kd.C_alloc ?_ _) | (with_reducible refine Kd.C_drewN ?_ _) | (with_reducible refine Kd.C_drew ?_))); (case side2 => exact (Kd.R_reads' HO247.out).2.1); (case side3 => first | exact hG | exact TabOk.drewN hG _ | exact TabOk.drewN (TabOk.drewN hG _) _ | exact TabOk.below hG (by repeat (first | (with_reducible first | exact HB.out | apply below_alloc | apply pw_below_drewN | apply below_drew1) | exact HB.out))); rintro e w38 ⟨rfl, hb⟩; refine ⟨_, rfl, ?_⟩; have n0_ := Aside0.mk (Kd.R_below (by (with_reducible repeat (first | apply Kd.R_alloc | apply Kd.R_drewN | apply Kd.R_drew)); exact HO247.out) hb); have n1_ := Aside0.mk (below_step (by repeat (first | (with_reducible first | exact HB.out | apply below_alloc | apply pw_below_drewN | apply below_drew1) | exact HB.out)) hb); clear HO247; clear HB; have HO247 := n0_; have HB := n1_; clear n0_ n1_; (try clear hb); (try clear hb2); (try clear hk); (try clear hi)))
                          go_ret
                          exact ⟨by first | rfl | (simp [errW_none, errW_some] <;> rfl) | (simp [*, errW_none, errW_some] <;> rfl), by repeat (first | (with_reducible first | exact HB.out | apply below_alloc | apply pw_below_drewN | apply below_drew1) | exact HB.out)⟩
                    · rw [if_neg c23] at H
                      have c23b0 : decide (4611686018427387903 < a0) = false := decide_eq_false c23
                      clear c23
                      by_cases c39 : a0 ≤ 4611686018427387903
                      · rw [if_pos c39] at H
                        have c39b0 : decide (a0 ≤ 4611686018427387903) = true := decide_eq_true c39
                        clear c39
                        by_cases c40 : t249 = 0
                        · rw [if_pos c40] at H
                          have c40b0 : (t249 == 0) = true := beq_iff_eq.mpr c40
                          have c40b1 : (t249 != 0) = false := bne_eq_false_iff_eq.mpr c40
                          clear c40
                          obtain rfl := Option.some.inj H
                          go_wp2_with (first | ((with_reducible refine gate_builtin (b := .append) (xs := #[.tmp 45, .tmp 47]) rfl ?_); at_builtin; refine Kd.R_append Kd.string (w0 := w) w.heap.size rfl (.tmp 45) (.tmp 47) 40 9 (.string ⟨#[]⟩) 16 rfl Tryd.underlying40 info9 rfl (by decide) (by omega) u7 x7_2 x8_2 [.string x8_2] (fun _ => True) (fun _ => False) rfl rfl ?aP (fun _ hk => hk.elim) ?aF ?aO ?aB ?aS ?aL ?_; (case aP => exact rfl); (case aB => exact (by repeat (first | (with_reducible first | exact HB.out | apply below_alloc | apply pw_below_drewN | apply below_drew1) | exact HB.out))); (case aF => exact (fun _ _ => trivial)); (case aO => exact (by (with_reducible repeat (first | apply Kd.R_alloc | apply Kd.R_drewN | apply Kd.R_drew)); exact HO_7.out)); (case aS => exact (below_size (by repeat (first | (with_reducible first | exact HB.out | apply below_alloc | apply pw_below_drewN | apply below_drew1) | exact HB.out)))); (case aL => have := LMc21.out; omega); intro v246 w41 ho hb hg hat; rw [← Ny245.out] at ho; have n0_ := Aside0.mk (hb); have n1_ := Aside0.mk (ho); clear HB; clear HO_7; have HB := n0_; have HO247 := n1_; clear n0_ n1_; clear ho hb hg hat; obtain ⟨Ao42, co42, eo42⟩ := Kd.R_slice HO247.out; subst eo42) | ((with_reducible refine gate_callee (f := 27) rfl ?_); refine goesL_ (some 51) rfl rfl Tryd.func27 (by kernel_rfl) rfl #[.slice Ao42 y245.length co42] rfl (by (try simp only [List.map_toArray, List.map_cons, List.map_nil]); first | done | rfl | (simp only [List.length_drop, List.length_take]; rfl)) ?_; (with_reducible refine (list_Length.calls _ _ y245 t248 t249 _ ?side1 ?side2 ?side3 A22.out).mono ?_); (case side1 => repeat (first | exact (Kd.R_reads' HO247.out).2.2 | (with_reducible refine Kd.C_alloc ?_ _) | (with_reducible refine Kd.C_drewN ?_ _) | (with_reducible refine Kd.C_drew ?_))); (case side2 => exact (Kd.R_reads' HO247.out).2.1); (case side3 => first | exact hG | exact TabOk.drewN hG _ | exact TabOk.drewN (TabOk.drewN hG _) _ | exact TabOk.below hG (by repeat (first | (with_reducible first | exact HB.out | apply below_alloc | apply pw_below_drewN | apply below_drew1) | exact HB.out))); rintro e w43 ⟨rfl, hb⟩; refine ⟨_, rfl, ?_⟩; have n0_ := Aside0.mk (Kd.R_below (by (with_reducible repeat (first | apply Kd.R_alloc | apply Kd.R_drewN | apply Kd.R_drew)); exact HO247.out) hb); have n1_ := Aside0.mk (below_step (by repeat (first | (with_reducible first | exact HB.out | apply below_alloc | apply pw_below_drewN | apply below_drew1) | exact HB.out)) hb); clear HO247; clear HB; have HO247 := n0_; have HB := n1_; clear n0_ n1_; (try clear hb); (try clear hb2); (try clear hk); (try clear hi)))
                          go_ret
                          exact ⟨by first | rfl | (simp [errW_none, errW_some] <;> rfl) | (simp [*, errW_none, errW_some] <;> rfl), by repeat (first | (with_reducible first | exact HB.out | apply below_alloc | apply pw_below_drewN | apply below_drew1) | exact HB.out)⟩
                        · rw [if_neg c40] at H
                          have c40b0 : (t249 == 0) = false := beq_eq_false_iff_ne.mpr c40
                          have c40b1 : (t249 != 0) = true := bne_iff_ne.mpr c40
                          obtain rfl := Option.some.inj H
                          go_wp2_with (first | ((with_reducible refine gate_builtin (b := .append) (xs := #[.tmp 45, .tmp 47]) rfl ?_); at_builtin; refine Kd.R_append Kd.string (w0 := w) w.heap.size rfl (.tmp 45) (.tmp 47) 40 9 (.string ⟨#[]⟩) 16 rfl Tryd.underlying40 info9 rfl (by decide) (by omega) u7 x7_2 x8_2 [.string x8_2] (fun _ => True) (fun _ => False) rfl rfl ?aP (fun _ hk => hk.elim) ?aF ?aO ?aB ?aS ?aL ?_; (case aP => exact rfl); (case aB => exact (by repeat (first | (with_reducible first | exact HB.out | apply below_alloc | apply pw_below_drewN | apply below_drew1) | exact HB.out))); (case aF => exact (fun _ _ => trivial)); (case aO => exact (by (with_reducible repeat (first | apply Kd.R_alloc | apply Kd.R_drewN | apply Kd.R_drew)); exact HO_7.out)); (case aS => exact (below_size (by repeat (first | (with_reducible first | exact HB.out | apply below_alloc | apply pw_below_drewN | apply below_drew1) | exact HB.out)))); (case aL => have := LMc21.out; omega); intro v246 w44 ho hb hg hat; rw [← Ny245.out] at ho; have n0_ := Aside0.mk (hb); have n1_ := Aside0.mk (ho); clear HB; clear HO_7; have HB := n0_; have HO247 := n1_; clear n0_ n1_; clear ho hb hg hat; obtain ⟨Ao45, co45, eo45⟩ := Kd.R_slice HO247.out; subst eo45) | ((with_reducible refine gate_callee (f := 27) rfl ?_); refine goesL_ (some 51) rfl rfl Tryd.func27 (by kernel_rfl) rfl #[.slice Ao45 y245.length co45] rfl (by (try simp only [List.map_toArray, List.map_cons, List.map_nil]); first | done | rfl | (simp only [List.length_drop, List.length_take]; rfl)) ?_; (with_reducible refine (list_Length.calls _ _ y245 t248 t249 _ ?side1 ?side2 ?side3 A22.out).mono ?_); (case side1 => repeat (first | exact (Kd.R_reads' HO247.out).2.2 | (with_reducible refine Kd.C_alloc ?_ _) | (with_reducible refine Kd.C_drewN ?_ _) | (with_reducible refine Kd.C_drew ?_))); (case side2 => exact (Kd.R_reads' HO247.out).2.1); (case side3 => first | exact hG | exact TabOk.drewN hG _ | exact TabOk.drewN (TabOk.drewN hG _) _ | exact TabOk.below hG (by repeat (first | (with_reducible first | exact HB.out | apply below_alloc | apply pw_below_drewN | apply below_drew1) | exact HB.out))); rintro e w46 ⟨rfl, hb⟩; refine ⟨_, rfl, ?_⟩; have n0_ := Aside0.mk (Kd.R_below (by (with_reducible repeat (first | apply Kd.R_alloc | apply Kd.R_drewN | apply Kd.R_drew)); exact HO247.out) hb); have n1_ := Aside0.mk (below_step (by repeat (first | (with_reducible first | exact HB.out | apply below_alloc | apply pw_below_drewN | apply below_drew1) | exact HB.out)) hb); clear HO247; clear HB; have HO247 := n0_; have HB := n1_; clear n0_ n1_; (try clear hb); (try clear hb2); (try clear hk); (try clear hi)))
                          go_ret
                          exact ⟨by first | rfl | (simp [errW_none, errW_some] <;> rfl) | (simp [*, errW_none, errW_some] <;> rfl), by repeat (first | (with_reducible first | exact HB.out | apply below_alloc | apply pw_below_drewN | apply below_drew1) | exact HB.out)⟩
                      · rw [if_neg c39] at H
                        have c39b0 : decide (a0 ≤ 4611686018427387903) = false := decide_eq_false c39
                        clear c39
                        obtain rfl := Option.some.inj H
                        go_wp2_with (first | ((with_reducible refine gate_builtin (b := .append) (xs := #[.tmp 45, .tmp 47]) rfl ?_); at_builtin; refine Kd.R_append Kd.string (w0 := w) w.heap.size rfl (.tmp 45) (.tmp 47) 40 9 (.string ⟨#[]⟩) 16 rfl Tryd.underlying40 info9 rfl (by decide) (by omega) u7 x7_2 x8_2 [.string x8_2] (fun _ => True) (fun _ => False) rfl rfl ?aP (fun _ hk => hk.elim) ?aF ?aO ?aB ?aS ?aL ?_; (case aP => exact rfl); (case aB => exact (by repeat (first | (with_reducible first | exact HB.out | apply below_alloc | apply pw_below_drewN | apply below_drew1) | exact HB.out))); (case aF => exact (fun _ _ => trivial)); (case aO => exact (by (with_reducible repeat (first | apply Kd.R_alloc | apply Kd.R_drewN | apply Kd.R_drew)); exact HO_7.out)); (case aS => exact (below_size (by repeat (first | (with_reducible first | exact HB.out | apply below_alloc | apply pw_below_drewN | apply below_drew1) | exact HB.out)))); (case aL => have := LMc21.out; omega); intro v246 w47 ho hb hg hat; rw [← Ny245.out] at ho; have n0_ := Aside0.mk (hb); have n1_ := Aside0.mk (ho); clear HB; clear HO_7; have HB := n0_; have HO247 := n1_; clear n0_ n1_; clear ho hb hg hat; obtain ⟨Ao48, co48, eo48⟩ := Kd.R_slice HO247.out; subst eo48) | ((with_reducible refine gate_callee (f := 27) rfl ?_); refine goesL_ (some 51) rfl rfl Tryd.func27 (by kernel_rfl) rfl #[.slice Ao48 y245.length co48] rfl (by (try simp only [List.map_toArray, List.map_cons, List.map_nil]); first | done | rfl | (simp only [List.length_drop, List.length_take]; rfl)) ?_; (with_reducible refine (list_Length.calls _ _ y245 t248 t249 _ ?side1 ?side2 ?side3 A22.out).mono ?_); (case side1 => repeat (first | exact (Kd.R_reads' HO247.out).2.2 | (with_reducible refine Kd.C_alloc ?_ _) | (with_reducible refine Kd.C_drewN ?_ _) | (with_reducible refine Kd.C_drew ?_))); (case side2 => exact (Kd.R_reads' HO247.out).2.1); (case side3 => first | exact hG | exact TabOk.drewN hG _ | exact TabOk.drewN (TabOk.drewN hG _) _ | exact TabOk.below hG (by repeat (first | (with_reducible first | exact HB.out | apply below_alloc | apply pw_below_drewN | apply below_drew1) | exact HB.out))); rintro e w49 ⟨rfl, hb⟩; refine ⟨_, rfl, ?_⟩; have n0_ := Aside0.mk (Kd.R_below (by (with_reducible repeat (first | apply Kd.R_alloc | apply Kd.R_drewN | apply Kd.R_drew)); exact HO247.out) hb); have n1_ := Aside0.mk (below_step (by repeat (first | (with_reducible first | exact HB.out | apply below_alloc | apply pw_below_drewN | apply below_drew1) | exact HB.out)) hb); clear HO247; clear HB; have HO247 := n0_; have HB := n1_; clear n0_ n1_; (try clear hb); (try clear hb2); (try clear hk); (try clear hi)))
                        go_ret
                        exact ⟨by first | rfl | (simp [errW_none, errW_some] <;> rfl) | (simp [*, errW_none, errW_some] <;> rfl), by repeat (first | (with_reducible first | exact HB.out | apply below_alloc | apply pw_below_drewN | apply below_drew1) | exact HB.out)⟩
                  · rw [if_neg c21] at H
                    exact absurd H (by simp)
  · replace c4 := Bool.eq_false_iff.mpr c4
    subst c4
    have H1 : (some false) = some r := by rw [if_neg (show ¬ (false = true) by decide)] at H; exact H
    clear H
    have H := H1
    clear H1
    obtain rfl := Option.some.inj H
    go_enter Tryd.func10, Tryd.ntmps10
    go_wp2_with (first | ((with_reducible refine gate_callee (f := 25) rfl ?_); refine goesL_ (some 11) rfl rfl Tryd.func25 (by kernel_rfl) rfl #[] rfl (by (try simp only [List.map_toArray, List.map_cons, List.map_nil]); first | done | rfl | (simp only [List.length_drop, List.length_take]; rfl)) ?_; (with_reducible refine (catchpitlaw07_wakes.calls k  false _ ?side1 A3.out).mono ?_); (case side1 => first | exact hG | exact TabOk.drewN hG _ | exact TabOk.drewN (TabOk.drewN hG _) _ | exact TabOk.below hG (by repeat (first | (with_reducible first | exact HB.out | apply below_alloc | apply pw_below_drewN | apply below_drew1) | exact HB.out))); rintro e w50 ⟨rfl, hb⟩; refine ⟨_, rfl, ?_⟩; have n0_ := Aside0.mk (below_step (by repeat (first | (with_reducible first | exact HB.out | apply below_alloc | apply pw_below_drewN | apply below_drew1) | exact HB.out)) hb); clear HB; have HB := n0_; clear n0_; (try clear hb); (try clear hb2); (try clear hk); (try clear hi)))
    go_ret
    exact ⟨by first | rfl | (simp [errW_none, errW_some] <;> rfl) | (simp [*, errW_none, errW_some] <;> rfl), by repeat (first | (with_reducible first | exact HB.out | apply below_alloc | apply pw_below_drewN | apply below_drew1) | exact HB.out)⟩
def catchpitlaw07_ListAgain.Pure : Prop := ∀ (a0 : Int) (a1 : Int), (Lit.int .u64 a0).wf = true → (Lit.int .u8 a1).wf = true → ∃ k, catchpitlaw07_ListAgain.f k a0 a1 = some true
def octet_Alike.f (a0 : ByteArray) (a1 : ByteArray) : Option (Bool) := (octet_Small.f a0).bind fun t250 => ((octet_Small.f a1).bind fun t251 => (some (t250.toList == t251.toList)))
def catchpitref07_Has.l0 : Nat → ByteArray → List ByteArray → Int → Option (Bool)
  | 0, _, _, _ => none
  | k + 1, x0, x5, x6 => if x6 < (x5.length : Int) then (if 0 ≤ x6 then ((catchpitref07_word.f k (rdOf ByteArray.empty x5 x6)).bind fun t256 => ((catchpitref02_Small.f k t256).bind fun t257 => ((catchpitref02_Small.f k x0).bind fun t258 => (if t257.toList = t258.toList then (some true) else (catchpitref07_Has.l0 k x0 x5 (wrap64 (x6 + 1))))))) else (none)) else (some false)
def catchpitref07_Has.f (k : Nat) (a0 : ByteArray) (l1 : List ByteArray) : Option (Bool) := (catchpitref07_Items.f k l1).bind fun t252 => (catchpitref07_Has.l0 k a0 t252 0)
theorem catchpitref07_Has.mono_l : ∀ k, (∀ y0 y1 y2, LeO (catchpitref07_Has.l0 k y0 y1 y2) (catchpitref07_Has.l0 (k + 1) y0 y1 y2))
  | 0 => fun _ _ _ r h => by simp [catchpitref07_Has.l0] at h
  | k + 1 => by
    have ih0 := catchpitref07_Has.mono_l k
    · intro y0 y1 y2
      unfold catchpitref07_Has.l0
      repeat' first
      | (with_reducible exact ih0 _ _ _)
      | (with_reducible exact catchpitref02_Small.mono _ _)
      | (with_reducible exact catchpitref07_Items.mono _ _)
      | (with_reducible exact catchpitref07_word.mono _ _)
      | (with_reducible exact LeO.refl _)
      | (with_reducible exact LeO.none _)
      | (with_reducible refine LeO.ite ?_ ?_)
      | (with_reducible refine LeO.bind ?_ (fun _ => ?_))
      | exact ih0 _ _ _
      | exact catchpitref02_Small.mono _ _
      | exact catchpitref07_Items.mono _ _
      | exact catchpitref07_word.mono _ _
      | exact LeO.none _
      | refine LeO.ite ?_ ?_
      | refine LeO.bind ?_ (fun _ => ?_)
theorem catchpitref07_Has.mono : ∀ a0 a1 k, LeO (catchpitref07_Has.f k a0 a1) (catchpitref07_Has.f (k + 1) a0 a1) := by
  intro a0 a1 k
  have ih0 := catchpitref07_Has.mono_l k
  unfold catchpitref07_Has.f
  repeat' first
      | (with_reducible exact ih0 _ _ _)
      | (with_reducible exact catchpitref02_Small.mono _ _)
      | (with_reducible exact catchpitref07_Items.mono _ _)
      | (with_reducible exact catchpitref07_word.mono _ _)
      | (with_reducible exact LeO.refl _)
      | (with_reducible exact LeO.none _)
      | (with_reducible refine LeO.ite ?_ ?_)
      | (with_reducible refine LeO.bind ?_ (fun _ => ?_))
      | exact ih0 _ _ _
      | exact catchpitref02_Small.mono _ _
      | exact catchpitref07_Items.mono _ _
      | exact catchpitref07_word.mono _ _
      | exact LeO.none _
      | refine LeO.ite ?_ ?_
      | refine LeO.bind ?_ (fun _ => ?_)
def catchpitlaw07_ListItems.j0 : Nat → List ByteArray → ByteArray → Bool → Option (Bool)
  | 0, _, _, _ => none
  | k + 1, x0, x1, x13 => if x13 = true then (some true) else ((list_Items.f x0).bind fun t261 => ((catchpitref07_Items.f k x0).bind fun t264 => ((catchpitref05_Texts.f k t261 t264).bind fun t267 => (if t267 = true then ((list_Has.f x1 x0).bind fun t268 => ((catchpitref07_Has.f k x1 x0).bind fun t269 => (some (t268 == t269)))) else (some false)))))
def catchpitlaw07_ListItems.f (k : Nat) (l0 : List ByteArray) (a1 : ByteArray) : Option (Bool) := (catchpitlaw07_wakes.f k).bind fun t259 => (if t259 = true then ((catchpitlaw07_long.f k l0).bind fun t260 => (if t260 = true then (catchpitlaw07_ListItems.j0 k l0 a1 true) else (catchpitlaw07_ListItems.j0 k l0 a1 (decide ((a1.size : Int) > 200))))) else (some false))
theorem catchpitlaw07_ListItems.mono_l : ∀ k, (∀ y0 y1 y2, LeO (catchpitlaw07_ListItems.j0 k y0 y1 y2) (catchpitlaw07_ListItems.j0 (k + 1) y0 y1 y2))
  | 0 => fun _ _ _ r h => by simp [catchpitlaw07_ListItems.j0] at h
  | k + 1 => by
    have ih0 := catchpitlaw07_ListItems.mono_l k
    · intro y0 y1 y2
      unfold catchpitlaw07_ListItems.j0
      repeat' first
      | (with_reducible exact ih0 _ _ _)
      | (with_reducible exact catchpitlaw07_long.mono _ _)
      | (with_reducible exact catchpitlaw07_wakes.mono _)
      | (with_reducible exact catchpitref05_Texts.mono _ _ _)
      | (with_reducible exact catchpitref07_Has.mono _ _ _)
      | (with_reducible exact catchpitref07_Items.mono _ _)
      | (with_reducible exact LeO.refl _)
      | (with_reducible exact LeO.none _)
      | (with_reducible refine LeO.ite ?_ ?_)
      | (with_reducible refine LeO.bind ?_ (fun _ => ?_))
      | exact ih0 _ _ _
      | exact catchpitlaw07_long.mono _ _
      | exact catchpitlaw07_wakes.mono _
      | exact catchpitref05_Texts.mono _ _ _
      | exact catchpitref07_Has.mono _ _ _
      | exact catchpitref07_Items.mono _ _
      | exact LeO.none _
      | refine LeO.ite ?_ ?_
      | refine LeO.bind ?_ (fun _ => ?_)
theorem catchpitlaw07_ListItems.mono : ∀ a0 a1 k, LeO (catchpitlaw07_ListItems.f k a0 a1) (catchpitlaw07_ListItems.f (k + 1) a0 a1) := by
  intro a0 a1 k
  have ih0 := catchpitlaw07_ListItems.mono_l k
  unfold catchpitlaw07_ListItems.f
  repeat' first
      | (with_reducible exact ih0 _ _ _)
      | (with_reducible exact catchpitlaw07_long.mono _ _)
      | (with_reducible exact catchpitlaw07_wakes.mono _)
      | (with_reducible exact catchpitref05_Texts.mono _ _ _)
      | (with_reducible exact catchpitref07_Has.mono _ _ _)
      | (with_reducible exact catchpitref07_Items.mono _ _)
      | (with_reducible exact LeO.refl _)
      | (with_reducible exact LeO.none _)
      | (with_reducible refine LeO.ite ?_ ?_)
      | (with_reducible refine LeO.bind ?_ (fun _ => ?_))
      | exact ih0 _ _ _
      | exact catchpitlaw07_long.mono _ _
      | exact catchpitlaw07_wakes.mono _
      | exact catchpitref05_Texts.mono _ _ _
      | exact catchpitref07_Has.mono _ _ _
      | exact catchpitref07_Items.mono _ _
      | exact LeO.none _
      | refine LeO.ite ?_ ?_
      | refine LeO.bind ?_ (fun _ => ?_)
end Go.Proofs.YtofegjgiocljlaaDoor.Pr
end
section
namespace Go.Proofs.YtofegjgiocljlaaDoorH
open Go.RowKit Go.Proofs.YtofegjgiocljlaaDoorW.PrintWords Go.Proofs.YtofegjgiocljlaaDoorW.PrintLast Go.Proofs.YtofegjgiocljlaaDoorW.PrintMore Go.Proofs.YtofegjgiocljlaaDoor.Pr
theorem ref05_Texts (a : List ByteArray) (hc : a.length ≤ 1000000) : Ev (fun k => catchpitref05_Texts.f k a a) true := by
  have hl0 : ∀ d i k : Nat, i ≤ a.length → a.length - i = d → d < k → catchpitref05_Texts.l0 k a a (i : Int) = some true := by
    intro d
    induction d with
    | zero =>
      intro i k h1 h2 h3
      obtain ⟨k, rfl⟩ : ∃ m, k = m + 1 := ⟨k - 1, by omega⟩
      rw [catchpitref05_Texts.l0, if_neg (by omega)]
    | succ d ih =>
      intro i k h1 h2 h3
      obtain ⟨k, rfl⟩ : ∃ m, k = m + 1 := ⟨k - 1, by omega⟩
      rw [catchpitref05_Texts.l0, if_pos (by omega), if_pos (by omega), if_pos (by omega), if_pos rfl, show wrap64 ((i : Int) + 1) = ((i + 1 : Nat) : Int) by unfold wrap64; omega]
      exact ih (i + 1) k (by omega) (by omega) (by omega)
  refine ⟨a.length + 1, fun k hk => ?_⟩
  show catchpitref05_Texts.f k a a = _
  rw [catchpitref05_Texts.f, if_pos rfl]
  exact hl0 a.length 0 k (by omega) (by omega) (by omega)
end Go.Proofs.YtofegjgiocljlaaDoorH
end
section
namespace Go.Proofs.YtofegjgiocljlaaDoorH
open Go.RowKit Go.Proofs.YtofegjgiocljlaaDoorW.PrintWords Go.Proofs.YtofegjgiocljlaaDoorW.PrintLast Go.Proofs.YtofegjgiocljlaaDoorW.PrintMore Go.Proofs.YtofegjgiocljlaaDoor.Pr
theorem mk_data (s : ByteArray) : (⟨s.data.toList.toArray⟩ : ByteArray) = s := bytes_ext (by simp)
end Go.Proofs.YtofegjgiocljlaaDoorH
end
section
namespace Go.Proofs.YtofegjgiocljlaaDoorH
open Go.RowKit Go.Proofs.YtofegjgiocljlaaDoorW.PrintWords Go.Proofs.YtofegjgiocljlaaDoorW.PrintLast Go.Proofs.YtofegjgiocljlaaDoorW.PrintMore Go.Proofs.YtofegjgiocljlaaDoor.Pr
theorem ev_succ {α : Type} {g : Nat → Option α} {r : α} (h : Ev (fun k => g (k + 1)) r) : Ev g r := by
  obtain ⟨K, hK⟩ := h
  refine ⟨K + 1, fun k hk => ?_⟩
  obtain ⟨k, rfl⟩ : ∃ m, k = m + 1 := ⟨k - 1, by omega⟩
  exact hK k (by omega)
theorem ev_as {α : Type} {g g' : Nat → Option α} {r : α} (h : Ev g r) (e : ∀ k, g' k = g k) : Ev g' r := by
  obtain ⟨K, hK⟩ := h
  exact ⟨K, fun k hk => (e k).trans (hK k hk)⟩
def mkB (l : List UInt8) : ByteArray := ⟨l.toArray⟩
def partsC (c : UInt8) (s : ByteArray) : List ByteArray := (splitL c s.data.toList).map mkB
theorem partsB_eq (s : ByteArray) : partsB s = partsC 44 s := rfl
theorem splitL_no (c : UInt8) (p : List UInt8) (h : ∀ x ∈ p, x ≠ c) : splitL c p = [p] :=
  splitL_none c p (List.findIdx_eq_length.2 fun x hx => by simpa using h x hx)
end Go.Proofs.YtofegjgiocljlaaDoorH
end
section
namespace Go.Proofs.YtofegjgiocljlaaDoor.Pr
open Go.RowKit Go.Proofs.YtofegjgiocljlaaDoorH Go.Proofs.YtofegjgiocljlaaDoorW.PrintWords Go.Proofs.YtofegjgiocljlaaDoorW.PrintLast Go.Proofs.YtofegjgiocljlaaDoorW.PrintMore
attribute [local go_sem] max2_int min2_int max_two min_two max_three min_three max_four min_four   -- for this text's walks alone
set_option linter.unusedVariables false
set_option linter.unusedSimpArgs false
def catchpitref07_Codings.l0 : Nat → List ByteArray → List ByteArray → Int → Option (List ByteArray × Int)
  | 0, _, _, _ => none
  | k + 1, x4, x5, x6 => if x6 < (x5.length : Int) then (if 0 ≤ x6 then ((catchpitref07_word.f k (rdOf ByteArray.empty x5 x6)).bind fun t167 => ((catchpitref02_Token.f k t167).bind fun t168 => (if t168 = true then ((catchpitref02_Small.f k t167).bind fun t169 => (if x4.length < 8796093022208 then (catchpitref07_Codings.l0 k (x4 ++ [t169]) x5 (wrap64 (x6 + 1))) else (none))) else (some (([] : List ByteArray), 2))))) else (none)) else (if (x4.length : Int) = 0 then (some (([] : List ByteArray), 2)) else (some (x4, 0)))
def catchpitref07_Codings.f (k : Nat) (l0 : List ByteArray) : Option (List ByteArray × Int) := if (l0.length : Int) = 0 then (some (([] : List ByteArray), 7)) else ((catchpitref07_Items.f k l0).bind fun t163 => (catchpitref07_Codings.l0 k ([] : List ByteArray) t163 0))
theorem catchpitref07_Codings.mono_l : ∀ k, (∀ y0 y1 y2, LeO (catchpitref07_Codings.l0 k y0 y1 y2) (catchpitref07_Codings.l0 (k + 1) y0 y1 y2))
  | 0 => fun _ _ _ r h => by simp [catchpitref07_Codings.l0] at h
  | k + 1 => by
    have ih0 := catchpitref07_Codings.mono_l k
    · intro y0 y1 y2
      unfold catchpitref07_Codings.l0
      repeat' first
      | (with_reducible exact ih0 _ _ _)
      | (with_reducible exact catchpitref02_Small.mono _ _)
      | (with_reducible exact catchpitref02_Token.mono _ _)
      | (with_reducible exact catchpitref07_Items.mono _ _)
      | (with_reducible exact catchpitref07_word.mono _ _)
      | (with_reducible exact LeO.refl _)
      | (with_reducible exact LeO.none _)
      | (with_reducible refine LeO.ite ?_ ?_)
      | (with_reducible refine LeO.bind ?_ (fun _ => ?_))
      | exact ih0 _ _ _
      | exact catchpitref02_Small.mono _ _
      | exact catchpitref02_Token.mono _ _
      | exact catchpitref07_Items.mono _ _
      | exact catchpitref07_word.mono _ _
      | exact LeO.none _
      | refine LeO.ite ?_ ?_
      | refine LeO.bind ?_ (fun _ => ?_)
theorem catchpitref07_Codings.mono : ∀ a0 k, LeO (catchpitref07_Codings.f k a0) (catchpitref07_Codings.f (k + 1) a0) := by
  intro a0 k
  have ih0 := catchpitref07_Codings.mono_l k
  unfold catchpitref07_Codings.f
  repeat' first
      | (with_reducible exact ih0 _ _ _)
      | (with_reducible exact catchpitref02_Small.mono _ _)
      | (with_reducible exact catchpitref02_Token.mono _ _)
      | (with_reducible exact catchpitref07_Items.mono _ _)
      | (with_reducible exact catchpitref07_word.mono _ _)
      | (with_reducible exact LeO.refl _)
      | (with_reducible exact LeO.none _)
      | (with_reducible refine LeO.ite ?_ ?_)
      | (with_reducible refine LeO.bind ?_ (fun _ => ?_))
      | exact ih0 _ _ _
      | exact catchpitref02_Small.mono _ _
      | exact catchpitref02_Token.mono _ _
      | exact catchpitref07_Items.mono _ _
      | exact catchpitref07_word.mono _ _
      | exact LeO.none _
      | refine LeO.ite ?_ ?_
      | refine LeO.bind ?_ (fun _ => ?_)
def catchpitlaw07_ListCodings.f (k : Nat) (l0 : List ByteArray) : Option (Bool) := (catchpitlaw07_wakes.f k).bind fun t173 => (if t173 = true then ((catchpitlaw07_long.f k l0).bind fun t174 => (if t174 = true then (some true) else ((list_Codings.f l0).bind fun bt175 => ((catchpitref07_Codings.f k l0).bind fun bt179 => ((catchpitref05_Texts.f k bt175.1 bt179.1).bind fun t183 => (if t183 = true then (some (bt175.2 == bt179.2)) else (some false))))))) else (some false))
theorem catchpitlaw07_ListCodings.mono : ∀ a0 k, LeO (catchpitlaw07_ListCodings.f k a0) (catchpitlaw07_ListCodings.f (k + 1) a0) := by
  intro a0 k
  unfold catchpitlaw07_ListCodings.f
  repeat' first
      | (with_reducible exact catchpitlaw07_long.mono _ _)
      | (with_reducible exact catchpitlaw07_wakes.mono _)
      | (with_reducible exact catchpitref05_Texts.mono _ _ _)
      | (with_reducible exact catchpitref07_Codings.mono _ _)
      | (with_reducible exact LeO.refl _)
      | (with_reducible exact LeO.none _)
      | (with_reducible refine LeO.ite ?_ ?_)
      | (with_reducible refine LeO.bind ?_ (fun _ => ?_))
      | exact catchpitlaw07_long.mono _ _
      | exact catchpitlaw07_wakes.mono _
      | exact catchpitref05_Texts.mono _ _ _
      | exact catchpitref07_Codings.mono _ _
      | exact LeO.none _
      | refine LeO.ite ?_ ?_
      | refine LeO.bind ?_ (fun _ => ?_)
end Go.Proofs.YtofegjgiocljlaaDoor.Pr
end
section
namespace Go.Proofs.YtofegjgiocljlaaDoorH
open Go.RowKit Go.Proofs.YtofegjgiocljlaaDoorW.PrintWords Go.Proofs.YtofegjgiocljlaaDoorW.PrintLast Go.Proofs.YtofegjgiocljlaaDoorW.PrintMore Go.Proofs.YtofegjgiocljlaaDoor.Pr
theorem wakes07 : Ev (fun k => catchpitlaw07_wakes.f k) true := by
  obtain ⟨K, hK⟩ := ref05_Texts [(⟨#[103, 122, 105, 112]⟩ : ByteArray), (⟨#[99, 104, 117, 110, 107, 101, 100]⟩ : ByteArray)] (by decide)
  dsimp only at hK
  have e1 : list_Length.f (([(⟨#[53]⟩ : ByteArray), (⟨#[53, 44, 32, 53]⟩ : ByteArray)] : List ByteArray)) = some (5, 0) := by decide +kernel
  have e2 : list_Length.f (([(⟨#[53]⟩ : ByteArray), (⟨#[54]⟩ : ByteArray)] : List ByteArray)) = some (0, 2) := by decide +kernel
  have e3 : list_Codings.f (([(⟨#[103, 122, 105, 112, 59, 113, 61, 49, 44, 32, 67, 104, 117, 110, 107, 101, 100]⟩ : ByteArray)] : List ByteArray)) = some ([(⟨#[103, 122, 105, 112]⟩ : ByteArray), (⟨#[99, 104, 117, 110, 107, 101, 100]⟩ : ByteArray)], 0) := by decide +kernel
  refine ⟨K, fun k hk => ?_⟩
  show catchpitlaw07_wakes.f k = _
  unfold catchpitlaw07_wakes.f
  rw [e1, Option.bind_some, e2, Option.bind_some, e3, Option.bind_some, if_pos rfl, if_pos rfl, if_pos rfl, if_pos rfl, hK k hk, Option.bind_some]
end Go.Proofs.YtofegjgiocljlaaDoorH
end
section
namespace Go.Proofs.YtofegjgiocljlaaDoor.Pr
open Go.RowKit Go.Proofs.YtofegjgiocljlaaDoorH Go.Proofs.YtofegjgiocljlaaDoorW.PrintWords Go.Proofs.YtofegjgiocljlaaDoorW.PrintLast Go.Proofs.YtofegjgiocljlaaDoorW.PrintMore
attribute [local go_sem] max2_int min2_int max_two min_two max_three min_three max_four min_four   -- for this text's walks alone
set_option linter.unusedVariables false
set_option linter.unusedSimpArgs false
mutual
def catchpitref07_Number.l0 : Nat → ByteArray → Int → Int → Option (Int × Int)
  | 0, _, _, _ => none
  | k + 1, x0, x4, x5 => if x5 < (x0.size : Int) then (if 0 ≤ x5 then (if (bt x0 x5) < 48 then (catchpitref07_Number.j1 k x0 x4 x5 true) else (catchpitref07_Number.j1 k x0 x4 x5 (decide ((bt x0 x5) > 57)))) else (none)) else (if (wrap64 ((x0.size : Int) - x4)) > 19 then (some (0, 3)) else (catchpitref07_Number.l1 k x0 0 x4))
def catchpitref07_Number.j1 : Nat → ByteArray → Int → Int → Bool → Option (Int × Int)
  | 0, _, _, _, _ => none
  | k + 1, x0, x4, x5, x26 => if x26 = true then (some (0, 2)) else (if 0 ≤ x5 then (if x5 < (x0.size : Int) then (if (bt x0 x5) = 48 then (if x4 = x5 then (if x5 < (wrap64 ((x0.size : Int) - 1)) then (catchpitref07_Number.l0 k x0 (wrap64 (x4 + 1)) (wrap64 (x5 + 1))) else (catchpitref07_Number.l0 k x0 x4 (wrap64 (x5 + 1)))) else (catchpitref07_Number.l0 k x0 x4 (wrap64 (x5 + 1)))) else (catchpitref07_Number.l0 k x0 x4 (wrap64 (x5 + 1)))) else (none)) else (none))
def catchpitref07_Number.l1 : Nat → ByteArray → Int → Int → Option (Int × Int)
  | 0, _, _, _ => none
  | k + 1, x0, x6, x7 => if x7 < (x0.size : Int) then (if 0 ≤ x7 then (catchpitref07_Number.l1 k x0 (IntKind.u64.wrap ((IntKind.u64.wrap (10 * x6)) + (((bt x0 x7) - 48) % 256))) (wrap64 (x7 + 1))) else (none)) else (if x6 > 4611686018427387903 then (some (0, 3)) else (some (x6, 0)))
end
def catchpitref07_Number.f (k : Nat) (a0 : ByteArray) : Option (Int × Int) := if (a0.size : Int) = 0 then (some (0, 2)) else (catchpitref07_Number.l0 k a0 0 0)
theorem catchpitref07_Number.mono_l : ∀ k, (∀ y0 y1 y2, LeO (catchpitref07_Number.l0 k y0 y1 y2) (catchpitref07_Number.l0 (k + 1) y0 y1 y2)) ∧ (∀ y0 y1 y2 y3, LeO (catchpitref07_Number.j1 k y0 y1 y2 y3) (catchpitref07_Number.j1 (k + 1) y0 y1 y2 y3)) ∧ (∀ y0 y1 y2, LeO (catchpitref07_Number.l1 k y0 y1 y2) (catchpitref07_Number.l1 (k + 1) y0 y1 y2))
  | 0 => ⟨fun _ _ _ r h => by simp [catchpitref07_Number.l0] at h, fun _ _ _ _ r h => by simp [catchpitref07_Number.j1] at h, fun _ _ _ r h => by simp [catchpitref07_Number.l1] at h⟩
  | k + 1 => by
    obtain ⟨ih0, ih1, ih2⟩ := catchpitref07_Number.mono_l k
    refine ⟨?_, ?_, ?_⟩
    · intro y0 y1 y2
      unfold catchpitref07_Number.l0
      repeat' first
      | (with_reducible exact ih0 _ _ _)
      | (with_reducible exact ih1 _ _ _ _)
      | (with_reducible exact ih2 _ _ _)
      | (with_reducible exact LeO.refl _)
      | (with_reducible exact LeO.none _)
      | (with_reducible refine LeO.ite ?_ ?_)
      | (with_reducible refine LeO.bind ?_ (fun _ => ?_))
      | exact ih0 _ _ _
      | exact ih1 _ _ _ _
      | exact ih2 _ _ _
      | exact LeO.none _
      | refine LeO.ite ?_ ?_
      | refine LeO.bind ?_ (fun _ => ?_)
    · intro y0 y1 y2 y3
      unfold catchpitref07_Number.j1
      repeat' first
      | (with_reducible exact ih0 _ _ _)
      | (with_reducible exact ih1 _ _ _ _)
      | (with_reducible exact ih2 _ _ _)
      | (with_reducible exact LeO.refl _)
      | (with_reducible exact LeO.none _)
      | (with_reducible refine LeO.ite ?_ ?_)
      | (with_reducible refine LeO.bind ?_ (fun _ => ?_))
      | exact ih0 _ _ _
      | exact ih1 _ _ _ _
      | exact ih2 _ _ _
      | exact LeO.none _
      | refine LeO.ite ?_ ?_
      | refine LeO.bind ?_ (fun _ => ?_)
    · intro y0 y1 y2
      unfold catchpitref07_Number.l1
      repeat' first
      | (with_reducible exact ih0 _ _ _)
      | (with_reducible exact ih1 _ _ _ _)
      | (with_reducible exact ih2 _ _ _)
      | (with_reducible exact LeO.refl _)
      | (with_reducible exact LeO.none _)
      | (with_reducible refine LeO.ite ?_ ?_)
      | (with_reducible refine LeO.bind ?_ (fun _ => ?_))
      | exact ih0 _ _ _
      | exact ih1 _ _ _ _
      | exact ih2 _ _ _
      | exact LeO.none _
      | refine LeO.ite ?_ ?_
      | refine LeO.bind ?_ (fun _ => ?_)
theorem catchpitref07_Number.mono : ∀ a0 k, LeO (catchpitref07_Number.f k a0) (catchpitref07_Number.f (k + 1) a0) := by
  intro a0 k
  obtain ⟨ih0, ih1, ih2⟩ := catchpitref07_Number.mono_l k
  unfold catchpitref07_Number.f
  repeat' first
      | (with_reducible exact ih0 _ _ _)
      | (with_reducible exact ih1 _ _ _ _)
      | (with_reducible exact ih2 _ _ _)
      | (with_reducible exact LeO.refl _)
      | (with_reducible exact LeO.none _)
      | (with_reducible refine LeO.ite ?_ ?_)
      | (with_reducible refine LeO.bind ?_ (fun _ => ?_))
      | exact ih0 _ _ _
      | exact ih1 _ _ _ _
      | exact ih2 _ _ _
      | exact LeO.none _
      | refine LeO.ite ?_ ?_
      | refine LeO.bind ?_ (fun _ => ?_)
end Go.Proofs.YtofegjgiocljlaaDoor.Pr
end
section
namespace Go.Proofs.YtofegjgiocljlaaDoorH
open Go.RowKit Go.Proofs.YtofegjgiocljlaaDoorW.PrintWords Go.Proofs.YtofegjgiocljlaaDoorW.PrintLast Go.Proofs.YtofegjgiocljlaaDoorW.PrintMore Go.Proofs.YtofegjgiocljlaaDoor.Pr
def digU (c : UInt8) : Bool := decide (48 ≤ (c.toNat : Int) ∧ (c.toNat : Int) ≤ 57)
def valL (n : Int) (l : List UInt8) : Int := l.foldl (fun m c => 10 * m + ((c.toNat : Int) - 48)) n
theorem valL_cons (n : Int) (c : UInt8) (l : List UInt8) : valL n (c :: l) = valL (10 * n + ((c.toNat : Int) - 48)) l := rfl
theorem digU_iff {c : UInt8} : digU c = true ↔ 48 ≤ (c.toNat : Int) ∧ (c.toNat : Int) ≤ 57 := by
  unfold digU
  exact decide_eq_true_iff
theorem valL_ge : ∀ (l : List UInt8) (n : Int), 0 ≤ n → l.all digU = true → n ≤ valL n l
  | [], n, _, _ => Int.le_refl _
  | c :: l, n, h, ha => by
    rw [List.all_cons, Bool.and_eq_true] at ha
    have hc := digU_iff.1 ha.1
    have := valL_ge l (10 * n + ((c.toNat : Int) - 48)) (by omega) ha.2
    rw [valL_cons]
    omega
theorem numL_bad : ∀ (l : List UInt8) (n : Int) (big : Bool), l.all digU = false → numL n big l = none
  | [], _, _, h => by cases h
  | c :: l, n, big, h => by
    rw [numL]
    by_cases hc : digU c = true
    · rw [List.all_cons, hc, Bool.true_and] at h
      have := digU_iff.1 hc
      rw [if_neg (by omega)]
      split
      · exact numL_bad l _ _ h
      split
      · exact numL_bad l _ _ h
      · exact numL_bad l _ _ h
    · have : ¬ (48 ≤ (c.toNat : Int) ∧ (c.toNat : Int) ≤ 57) := fun e => hc (digU_iff.2 e)
      rw [if_pos (by omega)]
theorem numL_true : ∀ (l : List UInt8) (n : Int), l.all digU = true → numL n true l = some (n, true)
  | [], _, _ => rfl
  | c :: l, n, h => by
    rw [List.all_cons, Bool.and_eq_true] at h
    have := digU_iff.1 h.1
    rw [numL, if_neg (by omega), if_pos rfl]
    exact numL_true l n h.2
theorem numL_good : ∀ (l : List UInt8) (n : Int), 0 ≤ n → l.all digU = true → (valL n l ≤ 4611686018427387903 → numL n false l = some (valL n l, false)) ∧ (4611686018427387903 < valL n l → n ≤ 4611686018427387903 → ∃ m, numL n false l = some (m, true))
  | [], n, _, _ => ⟨fun _ => rfl, fun h h2 => by have : valL n [] = n := rfl; omega⟩
  | c :: l, n, h0, h => by
    rw [List.all_cons, Bool.and_eq_true] at h
    have hc := digU_iff.1 h.1
    rw [numL, if_neg (by omega), if_neg (by decide), valL_cons]
    have hge := valL_ge l (10 * n + ((c.toNat : Int) - 48)) (by omega) h.2
    have ih := numL_good l (10 * n + ((c.toNat : Int) - 48)) (by omega) h.2
    by_cases hb : n > (4611686018427387903 - ((c.toNat : Int) - 48)) / 10
    · rw [if_pos hb]
      exact ⟨fun hv => by omega, fun _ _ => ⟨n, numL_true l n h.2⟩⟩
    · rw [if_neg hb]
      exact ⟨fun hv => ih.1 hv, fun hv hn => ih.2 hv (by omega)⟩
theorem numR_eq (s : ByteArray) : numR s = if s.data.toList.all digU = false ∨ s.size = 0 then (0, 2) else if valL 0 s.data.toList > 4611686018427387903 then (0, 3) else (valL 0 s.data.toList, 0) := by
  cases h : s.data.toList.all digU with
  | false => rw [if_pos (.inl rfl), numR_none (numL_bad _ _ _ h)]
  | true =>
    have hg := numL_good s.data.toList 0 (Int.le_refl _) h
    by_cases hs : s.size = 0
    · rw [if_pos (.inr hs)]
      by_cases hv : valL 0 s.data.toList ≤ 4611686018427387903
      · rw [numR_some (hg.1 hv), if_pos hs]
      · obtain ⟨m, hm⟩ := hg.2 (by omega) (by omega)
        rw [numR_some hm, if_pos hs]
    · rw [if_neg (by simp [hs])]
      by_cases hv : valL 0 s.data.toList ≤ 4611686018427387903
      · rw [numR_some (hg.1 hv), if_neg hs, if_neg (by decide), if_neg (by omega)]
      · obtain ⟨m, hm⟩ := hg.2 (by omega) (by omega)
        rw [numR_some hm, if_neg hs, if_pos rfl, if_pos (by omega)]
end Go.Proofs.YtofegjgiocljlaaDoorH
end
section
namespace Go.Proofs.YtofegjgiocljlaaDoor.Pr
open Go.RowKit Go.Proofs.YtofegjgiocljlaaDoorH Go.Proofs.YtofegjgiocljlaaDoorW.PrintWords Go.Proofs.YtofegjgiocljlaaDoorW.PrintLast Go.Proofs.YtofegjgiocljlaaDoorW.PrintMore
attribute [local go_sem] max2_int min2_int max_two min_two max_three min_three max_four min_four   -- for this text's walks alone
set_option linter.unusedVariables false
set_option linter.unusedSimpArgs false
mutual
def catchpitref07_Length.l0 : Nat → List ByteArray → Bool → Bool → Int → Int → Option (Int × Int)
  | 0, _, _, _, _, _ => none
  | k + 1, x0, x4, x5, x6, x7 => if x7 < (x0.length : Int) then (if 0 ≤ x7 then (if x7 ≤ (wrap64 (x7 + 1)) then (if (wrap64 (x7 + 1)) ≤ (x0.length : Int) then ((catchpitref07_Items.f k ((x0.take ((wrap64 (x7 + 1)) : Int).toNat).drop (x7 : Int).toNat)).bind fun t271 => (if (t271.length : Int) = 0 then (some (0, 2)) else (catchpitref07_Length.l1 k x0 x4 x5 x6 x7 t271 0))) else (none)) else (none)) else (none)) else (if x4 = true then (some (0, 3)) else (if x5 = true then (some (x6, 0)) else (some (0, 2))))
def catchpitref07_Length.l1 : Nat → List ByteArray → Bool → Bool → Int → Int → List ByteArray → Int → Option (Int × Int)
  | 0, _, _, _, _, _, _, _ => none
  | k + 1, x0, x4, x5, x6, x7, x8, x9 => if x9 < (x8.length : Int) then (if 0 ≤ x9 then ((catchpitref07_Number.f k (rdOf ByteArray.empty x8 x9)).bind fun bt275 => (if bt275.2 = 2 then (some (0, 2)) else (if bt275.2 = 3 then (if (wrap64 (x7 + x9)) > 0 then (if bt275.1 = x6 then (catchpitref07_Length.l1 k x0 true x5 bt275.1 x7 x8 (wrap64 (x9 + 1))) else (catchpitref07_Length.l1 k x0 true false bt275.1 x7 x8 (wrap64 (x9 + 1)))) else (catchpitref07_Length.l1 k x0 true x5 bt275.1 x7 x8 (wrap64 (x9 + 1)))) else (if (wrap64 (x7 + x9)) > 0 then (if bt275.1 = x6 then (catchpitref07_Length.l1 k x0 x4 x5 bt275.1 x7 x8 (wrap64 (x9 + 1))) else (catchpitref07_Length.l1 k x0 x4 false bt275.1 x7 x8 (wrap64 (x9 + 1)))) else (catchpitref07_Length.l1 k x0 x4 x5 bt275.1 x7 x8 (wrap64 (x9 + 1))))))) else (none)) else (catchpitref07_Length.l0 k x0 x4 x5 x6 (wrap64 (x7 + 1)))
end
def catchpitref07_Length.f (k : Nat) (l0 : List ByteArray) : Option (Int × Int) := if (l0.length : Int) = 0 then (some (0, 7)) else (catchpitref07_Length.l0 k l0 false true 0 0)
theorem catchpitref07_Length.mono_l : ∀ k, (∀ y0 y1 y2 y3 y4, LeO (catchpitref07_Length.l0 k y0 y1 y2 y3 y4) (catchpitref07_Length.l0 (k + 1) y0 y1 y2 y3 y4)) ∧ (∀ y0 y1 y2 y3 y4 y5 y6, LeO (catchpitref07_Length.l1 k y0 y1 y2 y3 y4 y5 y6) (catchpitref07_Length.l1 (k + 1) y0 y1 y2 y3 y4 y5 y6))
  | 0 => ⟨fun _ _ _ _ _ r h => by simp [catchpitref07_Length.l0] at h, fun _ _ _ _ _ _ _ r h => by simp [catchpitref07_Length.l1] at h⟩
  | k + 1 => by
    obtain ⟨ih0, ih1⟩ := catchpitref07_Length.mono_l k
    refine ⟨?_, ?_⟩
    · intro y0 y1 y2 y3 y4
      unfold catchpitref07_Length.l0
      repeat' first
      | (with_reducible exact ih0 _ _ _ _ _)
      | (with_reducible exact ih1 _ _ _ _ _ _ _)
      | (with_reducible exact catchpitref07_Items.mono _ _)
      | (with_reducible exact catchpitref07_Number.mono _ _)
      | (with_reducible exact LeO.refl _)
      | (with_reducible exact LeO.none _)
      | (with_reducible refine LeO.ite ?_ ?_)
      | (with_reducible refine LeO.bind ?_ (fun _ => ?_))
      | exact ih0 _ _ _ _ _
      | exact ih1 _ _ _ _ _ _ _
      | exact catchpitref07_Items.mono _ _
      | exact catchpitref07_Number.mono _ _
      | exact LeO.none _
      | refine LeO.ite ?_ ?_
      | refine LeO.bind ?_ (fun _ => ?_)
    · intro y0 y1 y2 y3 y4 y5 y6
      unfold catchpitref07_Length.l1
      repeat' first
      | (with_reducible exact ih0 _ _ _ _ _)
      | (with_reducible exact ih1 _ _ _ _ _ _ _)
      | (with_reducible exact catchpitref07_Items.mono _ _)
      | (with_reducible exact catchpitref07_Number.mono _ _)
      | (with_reducible exact LeO.refl _)
      | (with_reducible exact LeO.none _)
      | (with_reducible refine LeO.ite ?_ ?_)
      | (with_reducible refine LeO.bind ?_ (fun _ => ?_))
      | exact ih0 _ _ _ _ _
      | exact ih1 _ _ _ _ _ _ _
      | exact catchpitref07_Items.mono _ _
      | exact catchpitref07_Number.mono _ _
      | exact LeO.none _
      | refine LeO.ite ?_ ?_
      | refine LeO.bind ?_ (fun _ => ?_)
theorem catchpitref07_Length.mono : ∀ a0 k, LeO (catchpitref07_Length.f k a0) (catchpitref07_Length.f (k + 1) a0) := by
  intro a0 k
  obtain ⟨ih0, ih1⟩ := catchpitref07_Length.mono_l k
  unfold catchpitref07_Length.f
  repeat' first
      | (with_reducible exact ih0 _ _ _ _ _)
      | (with_reducible exact ih1 _ _ _ _ _ _ _)
      | (with_reducible exact catchpitref07_Items.mono _ _)
      | (with_reducible exact catchpitref07_Number.mono _ _)
      | (with_reducible exact LeO.refl _)
      | (with_reducible exact LeO.none _)
      | (with_reducible refine LeO.ite ?_ ?_)
      | (with_reducible refine LeO.bind ?_ (fun _ => ?_))
      | exact ih0 _ _ _ _ _
      | exact ih1 _ _ _ _ _ _ _
      | exact catchpitref07_Items.mono _ _
      | exact catchpitref07_Number.mono _ _
      | exact LeO.none _
      | refine LeO.ite ?_ ?_
      | refine LeO.bind ?_ (fun _ => ?_)
def catchpitlaw07_ListLengths.j0 : Nat → List ByteArray → ByteArray → Bool → Option (Bool)
  | 0, _, _, _ => none
  | k + 1, x0, x1, x21 => if x21 = true then (some true) else ((list_Length.f x0).bind fun bt279 => ((catchpitref07_Length.f k x0).bind fun bt281 => ((list_Number.f x1).bind fun bt283 => ((catchpitref07_Number.f k x1).bind fun bt285 => (if bt279.1 = bt281.1 then (if bt279.2 = bt281.2 then (if bt283.1 = bt285.1 then (some (bt283.2 == bt285.2)) else (some false)) else (some false)) else (some false))))))
def catchpitlaw07_ListLengths.f (k : Nat) (l0 : List ByteArray) (a1 : ByteArray) : Option (Bool) := (catchpitlaw07_wakes.f k).bind fun t277 => (if t277 = true then ((catchpitlaw07_long.f k l0).bind fun t278 => (if t278 = true then (catchpitlaw07_ListLengths.j0 k l0 a1 true) else (catchpitlaw07_ListLengths.j0 k l0 a1 (decide ((a1.size : Int) > 500))))) else (some false))
theorem catchpitlaw07_ListLengths.mono_l : ∀ k, (∀ y0 y1 y2, LeO (catchpitlaw07_ListLengths.j0 k y0 y1 y2) (catchpitlaw07_ListLengths.j0 (k + 1) y0 y1 y2))
  | 0 => fun _ _ _ r h => by simp [catchpitlaw07_ListLengths.j0] at h
  | k + 1 => by
    have ih0 := catchpitlaw07_ListLengths.mono_l k
    · intro y0 y1 y2
      unfold catchpitlaw07_ListLengths.j0
      repeat' first
      | (with_reducible exact ih0 _ _ _)
      | (with_reducible exact catchpitlaw07_long.mono _ _)
      | (with_reducible exact catchpitlaw07_wakes.mono _)
      | (with_reducible exact catchpitref07_Length.mono _ _)
      | (with_reducible exact catchpitref07_Number.mono _ _)
      | (with_reducible exact LeO.refl _)
      | (with_reducible exact LeO.none _)
      | (with_reducible refine LeO.ite ?_ ?_)
      | (with_reducible refine LeO.bind ?_ (fun _ => ?_))
      | exact ih0 _ _ _
      | exact catchpitlaw07_long.mono _ _
      | exact catchpitlaw07_wakes.mono _
      | exact catchpitref07_Length.mono _ _
      | exact catchpitref07_Number.mono _ _
      | exact LeO.none _
      | refine LeO.ite ?_ ?_
      | refine LeO.bind ?_ (fun _ => ?_)
theorem catchpitlaw07_ListLengths.mono : ∀ a0 a1 k, LeO (catchpitlaw07_ListLengths.f k a0 a1) (catchpitlaw07_ListLengths.f (k + 1) a0 a1) := by
  intro a0 a1 k
  have ih0 := catchpitlaw07_ListLengths.mono_l k
  unfold catchpitlaw07_ListLengths.f
  repeat' first
      | (with_reducible exact ih0 _ _ _)
      | (with_reducible exact catchpitlaw07_long.mono _ _)
      | (with_reducible exact catchpitlaw07_wakes.mono _)
      | (with_reducible exact catchpitref07_Length.mono _ _)
      | (with_reducible exact catchpitref07_Number.mono _ _)
      | (with_reducible exact LeO.refl _)
      | (with_reducible exact LeO.none _)
      | (with_reducible refine LeO.ite ?_ ?_)
      | (with_reducible refine LeO.bind ?_ (fun _ => ?_))
      | exact ih0 _ _ _
      | exact catchpitlaw07_long.mono _ _
      | exact catchpitlaw07_wakes.mono _
      | exact catchpitref07_Length.mono _ _
      | exact catchpitref07_Number.mono _ _
      | exact LeO.none _
      | refine LeO.ite ?_ ?_
      | refine LeO.bind ?_ (fun _ => ?_)
end Go.Proofs.YtofegjgiocljlaaDoor.Pr
end
section
namespace Go.Proofs.YtofegjgiocljlaaDoorH
open Go.RowKit Go.Proofs.YtofegjgiocljlaaDoorW.PrintWords Go.Proofs.YtofegjgiocljlaaDoorW.PrintLast Go.Proofs.YtofegjgiocljlaaDoorW.PrintMore Go.Proofs.YtofegjgiocljlaaDoor.Pr
def alikeN (l : List Int) : Bool := l.all fun x => x == l.getD 0 0
def lastN (l : List Int) : Int := l.getLastD 0
theorem lastN_snoc (l : List Int) (x : Int) : lastN (l ++ [x]) = x := by
  unfold lastN
  rw [List.getLastD_eq_getLast?, List.getLast?_append]
  rfl
theorem lastN_mem (l : List Int) (h : l ≠ []) : lastN l ∈ l := by
  rcases List.eq_nil_or_concat l with e | ⟨m, x, e⟩
  · exact absurd e h
  · rw [List.concat_eq_append] at e
    rw [e, lastN_snoc]
    simp
theorem alikeN_all {l : List Int} (h : alikeN l = true) : ∀ x ∈ l, x = l.getD 0 0 := fun x hx => by
  have := List.all_eq_true.1 h x hx
  exact eq_of_beq this
theorem alikeN_last {l : List Int} (h : alikeN l = true) (hne : l ≠ []) : lastN l = l.getD 0 0 := alikeN_all h _ (lastN_mem l hne)
theorem foldmin_le : ∀ (l : List Int) (a : Int), l.foldl min a ≤ a ∧ ∀ x ∈ l, l.foldl min a ≤ x
  | [], a => ⟨Int.le_refl _, fun _ h => absurd h List.not_mem_nil⟩
  | b :: l, a => by
    obtain ⟨h1, h2⟩ := foldmin_le l (min a b)
    rw [List.foldl_cons]
    refine ⟨by omega, fun x hx => ?_⟩
    rcases List.mem_cons.1 hx with rfl | hx
    · omega
    · exact h2 x hx
theorem foldmax_ge : ∀ (l : List Int) (a : Int), a ≤ l.foldl max a ∧ ∀ x ∈ l, x ≤ l.foldl max a
  | [], a => ⟨Int.le_refl _, fun _ h => absurd h List.not_mem_nil⟩
  | b :: l, a => by
    obtain ⟨h1, h2⟩ := foldmax_ge l (max a b)
    rw [List.foldl_cons]
    refine ⟨by omega, fun x hx => ?_⟩
    rcases List.mem_cons.1 hx with rfl | hx
    · omega
    · exact h2 x hx
theorem fold_same : ∀ (l : List Int) (a : Int), (∀ x ∈ l, x = a) → l.foldl min a = a ∧ l.foldl max a = a
  | [], a, _ => ⟨rfl, rfl⟩
  | b :: l, a, h => by
    have hb := h b List.mem_cons_self
    subst hb
    rw [List.foldl_cons, List.foldl_cons, show min b b = b by omega, show max b b = b by omega]
    exact fold_same l b (fun x hx => h x (List.mem_cons_of_mem _ hx))
theorem minmax_alike (l : List Int) (hne : l ≠ []) : (minI l = maxI l) ↔ alikeN l = true := by
  cases l with
  | nil => exact absurd rfl hne
  | cons a l =>
    show (l.foldl min a = l.foldl max a) ↔ _
    constructor
    · intro h
      obtain ⟨h1, h2⟩ := foldmin_le l a
      obtain ⟨h3, h4⟩ := foldmax_ge l a
      refine List.all_eq_true.2 fun x hx => ?_
      show (x == a) = true
      rcases List.mem_cons.1 hx with rfl | hx
      · exact beq_self_eq_true _
      · have := h2 x hx
        have := h4 x hx
        exact beq_iff_eq.2 (by omega)
    · intro h
      obtain ⟨h1, h2⟩ := fold_same l a (fun x hx => alikeN_all h x (List.mem_cons_of_mem _ hx))
      rw [h1, h2]
theorem mem_itemsF : ∀ (xs : List ByteArray) (i : Nat) (y : Nat × ByteArray), y ∈ itemsF i xs ↔ ∃ j, j < xs.length ∧ y.1 = i + j ∧ y.2 ∈ itemsP (xs.getD j ByteArray.empty)
  | [], i, y => ⟨fun h => absurd h List.not_mem_nil, fun ⟨j, h, _⟩ => absurd h (Nat.not_lt_zero _)⟩
  | v :: xs, i, y => by
    rw [itemsF, List.mem_append]
    constructor
    · rintro (h | h)
      · obtain ⟨x, hx, rfl⟩ := List.mem_map.1 h
        exact ⟨0, Nat.succ_pos _, rfl, hx⟩
      · obtain ⟨j, h1, h2, h3⟩ := (mem_itemsF xs (i + 1) y).1 h
        exact ⟨j + 1, Nat.succ_lt_succ h1, by omega, h3⟩
    · rintro ⟨j, h1, h2, h3⟩
      cases j with
      | zero => exact .inl (List.mem_map.2 ⟨y.2, h3, by rw [Prod.ext_iff]; exact ⟨h2.symm, rfl⟩⟩)
      | succ j => exact .inr ((mem_itemsF xs (i + 1) y).2 ⟨j, Nat.lt_of_succ_lt_succ h1, by omega, h3⟩)
theorem fold_met : ∀ (l : List (Nat × ByteArray)) (m : List Int) (j : Nat), (∀ i, 0 ≤ m.getD i 0) → j < m.length →
    0 ≤ (l.foldl (fun m y => m.set y.1 (m.getD y.1 0 + 1)) m).getD j 0 ∧ ((l.foldl (fun m y => m.set y.1 (m.getD y.1 0 + 1)) m).getD j 0 = 0 ↔ m.getD j 0 = 0 ∧ ∀ y ∈ l, y.1 ≠ j)
  | [], m, j, h, _ => ⟨h j, fun e => ⟨e, fun _ h => absurd h List.not_mem_nil⟩, fun e => e.1⟩
  | y :: l, m, j, h, hj => by
    have hm : ∀ i, 0 ≤ (m.set y.1 (m.getD y.1 0 + 1)).getD i 0 := fun i => by
      rw [getD_set]
      have h1 := h i
      have h2 := h y.1
      split <;> omega
    obtain ⟨h1, h2⟩ := fold_met l (m.set y.1 (m.getD y.1 0 + 1)) j hm (by rw [List.length_set]; exact hj)
    rw [List.foldl_cons]
    refine ⟨h1, h2.trans ?_⟩
    rw [getD_set]
    have hy := h y.1
    by_cases he : y.1 = j
    · rw [if_pos ⟨he, hj⟩]
      exact ⟨fun e => by have := e.1; omega, fun e => absurd he (e.2 y List.mem_cons_self)⟩
    · rw [if_neg (fun e => he e.1)]
      exact ⟨fun e => ⟨e.1, fun z hz => (List.mem_cons.1 hz).elim (fun e => e ▸ he) (e.2 z)⟩, fun e => ⟨e.1, fun z hz => e.2 z (List.mem_cons_of_mem _ hz)⟩⟩
theorem met_iff (xs : List ByteArray) : (metL xs.length (itemsF 0 xs)).contains 0 = true ↔ ∃ j, j < xs.length ∧ itemsP (xs.getD j ByteArray.empty) = [] := by
  have hlen := metL_length xs.length (itemsF 0 xs)
  have hz : ∀ i, (0 : Int) ≤ (List.replicate xs.length (0 : Int)).getD i 0 ∧ (List.replicate xs.length (0 : Int)).getD i 0 = 0 := fun i => by
    rw [List.getD_eq_getElem?_getD, List.getElem?_replicate]
    split <;> simp
  have key : ∀ j, j < xs.length → ((metL xs.length (itemsF 0 xs)).getD j 0 = 0 ↔ itemsP (xs.getD j ByteArray.empty) = []) := by
    intro j hj
    refine (fold_met (itemsF 0 xs) (List.replicate xs.length 0) j (fun i => (hz i).1) (by rw [List.length_replicate]; exact hj)).2.trans ?_
    constructor
    · rintro ⟨_, h⟩
      rcases hq : itemsP (xs.getD j ByteArray.empty) with _ | ⟨a, r⟩
      · rfl
      · exact absurd rfl (h (j, a) ((mem_itemsF xs 0 (j, a)).2 ⟨j, hj, (Nat.zero_add j).symm, by rw [hq]; exact List.mem_cons_self⟩))
    · intro h
      refine ⟨(hz j).2, fun y hy e => ?_⟩
      obtain ⟨i, h1, h2, h3⟩ := (mem_itemsF xs 0 y).1 hy
      obtain rfl : i = j := by omega
      rw [h] at h3
      exact absurd h3 List.not_mem_nil
  rw [List.contains_iff_mem]
  constructor
  · intro h
    obtain ⟨j, hj, he⟩ := List.getElem_of_mem h
    refine ⟨j, by omega, (key j (by omega)).1 ?_⟩
    rw [List.getD_eq_getElem?_getD, List.getElem?_eq_getElem hj]
    exact he
  · rintro ⟨j, hj, h⟩
    have := (key j hj).2 h
    rw [← this]
    exact mem_getD _ 0 j (by omega)
theorem nums_ne {l : List (Nat × ByteArray)} (h : l ≠ []) : nums l ≠ [] := fun e => h (List.map_eq_nil_iff.1 e)
theorem lenR_whole (xs : List ByteArray) (h0 : xs.length ≠ 0) (hall : ∀ j, j < xs.length → itemsP (xs.getD j ByteArray.empty) ≠ []) (hb : badN (itemsF 0 xs) = false) :
    lenR xs = if bigN (itemsF 0 xs) = true then (0, 3) else if alikeN (nums (itemsF 0 xs)) = true then (lastN (nums (itemsF 0 xs)), 0) else (0, 2) := by
  have hne : itemsF 0 xs ≠ [] := by
    obtain ⟨a, r, hq⟩ := List.exists_cons_of_ne_nil (hall 0 (by omega))
    intro e
    have := (mem_itemsF xs 0 (0, a)).2 ⟨0, by omega, rfl, by rw [hq]; exact List.mem_cons_self⟩
    rw [e] at this
    exact absurd this List.not_mem_nil
  unfold lenR
  rw [if_neg h0, if_neg (by rw [hb]; decide), if_neg (fun h => by obtain ⟨j, hj, he⟩ := (met_iff xs).1 h; exact hall j hj he)]
  by_cases hg : bigN (itemsF 0 xs) = true
  · rw [if_pos hg, if_pos hg]
  · rw [if_neg hg, if_neg hg]
    by_cases ha : alikeN (nums (itemsF 0 xs)) = true
    · rw [if_neg (fun h => h ((minmax_alike _ (nums_ne hne)).2 ha)), if_pos ha, alikeN_last ha (nums_ne hne)]
    · rw [if_pos (fun h => ha ((minmax_alike _ (nums_ne hne)).1 h)), if_neg ha]
end Go.Proofs.YtofegjgiocljlaaDoorH
end
section
namespace Go.Proofs.YtofegjgiocljlaaDoor.Pure
open Go.RowKit Go.Proofs.YtofegjgiocljlaaDoorH Go.Proofs.YtofegjgiocljlaaDoor.Pr Go.Proofs.YtofegjgiocljlaaDoorW.PrintWords Go.Proofs.YtofegjgiocljlaaDoorW.PrintLast
theorem dig_blank {c : UInt8} (h : digU c = true) : blankU c = false := by
  have := digU_iff.1 h
  unfold blankU
  rw [Bool.eq_false_iff]
  intro e
  rw [List.contains_iff_mem] at e
  rcases List.mem_cons.1 e with rfl | e
  · exact absurd h (by decide)
  · rw [List.mem_singleton.1 e] at h
    exact absurd h (by decide)
theorem dig_comma {c : UInt8} (h : digU c = true) : c ≠ 44 := by
  rintro rfl
  exact absurd h (by decide)
theorem dropWhile_dig : ∀ l : List UInt8, l.all digU = true → l.dropWhile blankU = l
  | [], _ => rfl
  | c :: l, h => by
    rw [List.all_cons, Bool.and_eq_true] at h
    rw [List.dropWhile_cons, dig_blank h.1]
    rfl
theorem trimL_dig (l : List UInt8) (h : l.all digU = true) : trimL l = l := by
  rw [trimL_eq', dropWhile_dig l h]
  unfold rtrim
  rw [dropWhile_dig l.reverse (by rw [List.all_reverse]; exact h), List.reverse_reverse]
theorem trimL_blank (l : List UInt8) (h : l.all digU = true) : trimL (32 :: l) = l := by
  rw [trimL_eq', List.dropWhile_cons, show blankU 32 = true from by decide, if_pos rfl, ← trimL_eq', trimL_dig l h]
theorem trimS_mk {l r : List UInt8} (h : trimL l = r) : trimS (mkB l) = mkB r := by
  apply bytes_ext
  rw [trimS_data]
  exact h
theorem mkB_data (s : ByteArray) : mkB s.data.toList = s := mk_data s
theorem partItem_dig (s : ByteArray) (_h : s.data.toList.all digU = true) (h0 : 0 < s.size) (l : List UInt8) (hl : trimL l = s.data.toList) : partItem (mkB l) = [s] := by
  unfold partItem
  rw [trimS_mk hl, mkB_data, if_neg (by omega)]
theorem itemsP_dig (s : ByteArray) (h : s.data.toList.all digU = true) (h0 : 0 < s.size) : itemsP s = [s] := by
  rw [itemsP_flat, partsB_eq]
  unfold partsC
  rw [splitL_no 44 _ (fun x hx => dig_comma (List.all_eq_true.1 h x hx)), List.map_singleton, List.flatMap_singleton, partItem_dig s h h0 _ (trimL_dig _ h)]
theorem itemsP_more (a s : ByteArray) (h : s.data.toList.all digU = true) (h0 : 0 < s.size) : itemsP (a ++ ((⟨#[44, 32]⟩ : ByteArray) ++ s)) = itemsP a ++ [s] := by
  rw [itemsP_flat, itemsP_flat]
  unfold partsB
  rw [append_data, append_data, show (⟨#[44, 32]⟩ : ByteArray).data.toList ++ s.data.toList = 44 :: (32 :: s.data.toList) from rfl, splitL_append, List.map_append, List.flatMap_append, splitL_no 44 (32 :: s.data.toList) (fun x hx => by
    rcases List.mem_cons.1 hx with rfl | hx
    · decide
    · exact dig_comma (List.all_eq_true.1 h x hx)), List.map_singleton, List.flatMap_singleton]
  congr 1
  exact partItem_dig s h h0 _ (trimL_blank _ h)
theorem lenR_same (xs : List ByteArray) (s : ByteArray) (h0 : xs.length ≠ 0) (hall : ∀ j, j < xs.length → itemsP (xs.getD j ByteArray.empty) ≠ []) (hs : ∀ v ∈ xs, ∀ y ∈ itemsP v, y = s) (he : (numR s).2 ≠ 2) : lenR xs = if (numR s).2 = 3 then (0, 3) else ((numR s).1, 0) := by
  have hy : ∀ y ∈ itemsF 0 xs, y.2 = s := by
    intro y hy
    obtain ⟨j, h1, h2, h3⟩ := (mem_itemsF xs 0 y).1 hy
    exact hs _ (mem_getD xs ByteArray.empty j h1) _ h3
  obtain ⟨y0, r, hq⟩ : ∃ y0 r, itemsF 0 xs = y0 :: r := by
    obtain ⟨a, r, hq⟩ := List.exists_cons_of_ne_nil (hall 0 (by omega))
    have := (mem_itemsF xs 0 (0, a)).2 ⟨0, by omega, rfl, by rw [hq]; exact List.mem_cons_self⟩
    exact List.exists_cons_of_ne_nil (fun e => by rw [e] at this; exact absurd this List.not_mem_nil)
  have hb : badN (itemsF 0 xs) = false := by
    unfold badN
    rw [List.any_eq_false]
    intro y h
    rw [hy y h]
    simpa using he
  have hn : ∀ x ∈ Go.Proofs.YtofegjgiocljlaaDoorH.nums (itemsF 0 xs), x = (numR s).1 := by
    intro x hx
    obtain ⟨y, h1, rfl⟩ := List.mem_map.1 hx
    rw [hy y h1]
  have hne : Go.Proofs.YtofegjgiocljlaaDoorH.nums (itemsF 0 xs) ≠ [] := nums_ne (by rw [hq]; exact List.cons_ne_nil _ _)
  have hl : lastN (Go.Proofs.YtofegjgiocljlaaDoorH.nums (itemsF 0 xs)) = (numR s).1 := hn _ (lastN_mem _ hne)
  have ha : alikeN (Go.Proofs.YtofegjgiocljlaaDoorH.nums (itemsF 0 xs)) = true := by
    refine List.all_eq_true.2 fun x hx => beq_iff_eq.2 ?_
    rw [hn x hx]
    refine (hn _ ?_).symm
    exact mem_getD _ 0 0 (List.length_pos_iff.2 hne)
  rw [lenR_whole xs h0 hall hb, if_pos ha, hl]
  by_cases h3 : (numR s).2 = 3
  · rw [if_pos h3, if_pos]
    unfold bigN
    rw [hq, List.any_cons, hy y0 (by rw [hq]; exact List.mem_cons_self), h3]
    rfl
  · rw [if_neg h3, if_neg]
    intro h
    obtain ⟨y, h1, h2⟩ := List.any_eq_true.1 h
    rw [hy y h1] at h2
    exact h3 (eq_of_beq h2)
theorem sumS_append : ∀ l r : List ByteArray, sumS (l ++ r) = sumS l + sumS r
  | [], r => by rw [List.nil_append]; exact (Nat.zero_add _).symm
  | x :: l, r => by rw [List.cons_append, sumS_cons, sumS_cons, sumS_append l r]; omega
theorem Again_q5 {a b c : Nat} (h : a ≤ c * 200) (h2 : b ≤ 100) : a + (b + 1) ≤ (c + 1) * 200 := by omega
theorem Again_q6 {a b c : Nat} (h : a ≤ (c + 1) * 200) (h2 : b ≤ 100) : a + (2 + b) ≤ (c + 1 + 1) * 200 := by omega
theorem Again_q7 {a b c t : Nat} (h : a ≤ (c + 1) * 200) (h2 : b ≤ 100) (h3 : c ≤ t) (h4 : t < 4) : a + (2 + b) ≤ 9223372036854775807 := by omega
theorem Again_l1 (n : Int) (s : ByteArray) (h : s.data.toList.all digU = true) (h0 : 0 < s.size) (h1 : s.size ≤ 100) (hv : valL 0 s.data.toList = n) (t : Nat) (ht : t < 4) : ∀ (d i : Nat) (l : List ByteArray) (a : ByteArray), t - i = d → i ≤ t → l.length = i → (∀ v ∈ l, v = s) → itemsP a ≠ [] → (∀ y ∈ itemsP a, y = s) → sumS l ≤ i * 200 → a.size ≤ (i + 1) * 200 →
    Ev (fun k => catchpitlaw07_ListAgain.l1 k n s l a (t : Int) (i : Int)) true := by
  have hr := numR_eq s
  rw [if_neg (fun e => e.elim (fun e => by rw [h] at e; cases e) (fun e => by omega)), hv] at hr
  clear hv
  intro d
  induction d with
  | zero =>
    intro i l a h2 h3 h4 h5 h6 h7 h8 h9
    have hsum : sumS (l ++ [a]) ≤ 1000000 := by
      rw [sumS_append, sumS_cons]
      show _ + (_ + 0) ≤ _
      omega
    have hL := lenR_same (l ++ [a]) s (by simp) (fun j hj => by
      have hm := mem_getD (l ++ [a]) ByteArray.empty j hj
      rcases List.mem_append.1 hm with e | e
      · rw [h5 _ e, itemsP_dig s h h0]
        exact List.cons_ne_nil _ _
      · rw [List.mem_singleton.1 e]
        exact h6) (fun v hv y hy => by
      rcases List.mem_append.1 hv with e | e
      · rw [h5 _ e, itemsP_dig s h h0] at hy
        exact List.mem_singleton.1 hy
      · rw [List.mem_singleton.1 e] at hy
        exact h7 y hy) (by
      rw [hr]
      split
      · show (3 : Int) ≠ 2
        decide
      · show (0 : Int) ≠ 2
        decide)
    refine ev_succ ⟨0, fun k _ => ?_⟩
    show catchpitlaw07_ListAgain.l1 (k + 1) n s l a _ _ = _
    rw [catchpitlaw07_ListAgain.l1, if_neg (by omega), if_pos (by omega)]
    unfold list_Length.f
    rw [if_pos hsum, Option.bind_some]
    by_cases hn : n > 4611686018427387903
    · have e : lenR (l ++ [a]) = (0, 3) := by
        rw [hL, hr, if_pos hn]
        exact if_pos (show (3 : Int) = 3 from rfl)
      rw [e, if_pos hn, if_pos rfl]
    · have e : lenR (l ++ [a]) = (n, 0) := by
        rw [hL, hr, if_neg hn]
        exact if_neg (show ¬ (0 : Int) = 3 by decide)
      rw [e, if_neg hn, if_pos (by omega), if_pos rfl]
      simp
  | succ d ih =>
    intro i l a h2 h3 h4 h5 h6 h7 h8 h9
    have i1 : (i : Int) < (t : Int) := by omega
    have i2 : l.length < 8796093022208 := by omega
    have i3 : 2 + s.size ≤ 9223372036854775807 := by omega
    have i4 : t - (i + 1) = d := by omega
    have i5 : i + 1 ≤ t := by omega
    have hw : wrap64 ((i : Int) + 1) = ((i + 1 : Nat) : Int) := by unfold wrap64; omega
    have hz : ((⟨#[44, 32]⟩ : ByteArray) ++ s).size = 2 + s.size := by rw [ByteArray.size_append, show (⟨#[44, 32]⟩ : ByteArray).size = 2 from rfl]
    have q1 : (l ++ [s]).length = i + 1 := by rw [List.length_append, h4]; rfl
    have q2 : ∀ v ∈ l ++ [s], v = s := fun v hv => by
      rcases List.mem_append.1 hv with e | e
      · exact h5 v e
      · exact List.mem_singleton.1 e
    have q3 : itemsP (a ++ ((⟨#[44, 32]⟩ : ByteArray) ++ s)) ≠ [] := by
      rw [itemsP_more a s h h0]
      exact fun e => h6 (List.append_eq_nil_iff.1 e).1
    have q4 : ∀ y ∈ itemsP (a ++ ((⟨#[44, 32]⟩ : ByteArray) ++ s)), y = s := fun y hy => by
      rw [itemsP_more a s h h0] at hy
      rcases List.mem_append.1 hy with e | e
      · exact h7 y e
      · exact List.mem_singleton.1 e
    have q5 : sumS (l ++ [s]) ≤ (i + 1) * 200 := by
      have e : sumS [s] = s.size + 1 := by rw [sumS_cons]; rfl
      rw [sumS_append, e]
      exact Again_q5 h8 h1
    have q6 : (a ++ ((⟨#[44, 32]⟩ : ByteArray) ++ s)).size ≤ (i + 1 + 1) * 200 := by
      rw [ByteArray.size_append, hz]
      exact Again_q6 h9 h1
    have i6 : a.size + ((⟨#[44, 32]⟩ : ByteArray) ++ s).size ≤ 9223372036854775807 := by
      rw [hz]
      exact Again_q7 h9 h1 h3 ht
    have g := ih (i + 1) (l ++ [s]) (a ++ ((⟨#[44, 32]⟩ : ByteArray) ++ s)) i4 i5 q1 q2 q3 q4 q5 q6
    refine ev_succ (ev_as g fun k => ?_)
    rw [catchpitlaw07_ListAgain.l1, if_pos i1, if_pos i2, if_pos i3, if_pos i6, hw]
theorem Again_fin (n a1 : Int) (ha : (Lit.int .u8 a1).wf = true) (s : ByteArray) (h : s.data.toList.all digU = true) (h0 : 0 < s.size) (h1 : s.size ≤ 100) (hv : valL 0 s.data.toList = n) : Ev (fun k => catchpitlaw07_ListAgain.l0 k n a1 s 0) true := by
  obtain ⟨t, ht, e⟩ : ∃ t : Nat, t < 4 ∧ Int.tmod (wrap64 a1) 4 = (t : Int) := by
    have m2 : IntKind.u8.max = 255 := rfl
    have m1 : IntKind.u8.min = 0 := rfl
    simp [Lit.wf, m1, m2] at ha
    obtain ⟨m, rfl⟩ := Int.eq_ofNat_of_zero_le (by omega : 0 ≤ a1)
    refine ⟨m % 4, by omega, ?_⟩
    rw [show wrap64 ((m : Nat) : Int) = ((m : Nat) : Int) by unfold wrap64; omega]
    exact (Int.ofNat_tmod m 4).symm
  have g := Again_l1 n s h h0 h1 hv t ht t 0 [] s rfl (Nat.zero_le _) rfl (by simp) (by rw [itemsP_dig s h h0]; simp) (fun y hy => by rw [itemsP_dig s h h0] at hy; exact List.mem_singleton.1 hy) (Nat.zero_le _) (by omega)
  refine ev_succ (ev_as g fun k => ?_)
  have hne : ¬ s.toList = ([] : List UInt8) := by
    rw [ByteArray.toList_eq]
    intro e
    rw [size_eq_length, e] at h0
    exact absurd h0 (Nat.lt_irrefl _)
  rw [catchpitlaw07_ListAgain.l0, if_neg (by decide), if_neg hne, e]
  rfl
theorem Again_digit (x : Int) (h0 : 0 ≤ x) (h1 : x < 18446744073709551616) (s : ByteArray) (h : s.data.toList.all digU = true) :
    ∃ s', strOfNums [(IntKind.u64.wrap (48 + (Int.tmod x 10))) % 256] ++ s = s' ∧ s'.data.toList.all digU = true ∧ s'.size = s.size + 1 ∧ valL (x / 10) s'.data.toList = valL x s.data.toList ∧ IntKind.u64.wrap (Int.tdiv x 10) = x / 10 := by
  obtain ⟨m, rfl⟩ := Int.eq_ofNat_of_zero_le h0
  have e1 : Int.tmod (m : Int) 10 = ((m % 10 : Nat) : Int) := (Int.ofNat_tmod m 10).symm
  have e2 : Int.tdiv (m : Int) 10 = ((m / 10 : Nat) : Int) := (Int.ofNat_tdiv m 10).symm
  have e3 : IntKind.u64.wrap (48 + ((m % 10 : Nat) : Int)) = 48 + ((m % 10 : Nat) : Int) := u64_id (by omega) (by omega)
  have e4 : (48 + ((m % 10 : Nat) : Int)) % 256 = ((48 + m % 10 : Nat) : Int) := by omega
  have e5 : (UInt8.ofNat (48 + m % 10)).toNat = 48 + m % 10 := by rw [UInt8.toNat_ofNat']; omega
  have hd : (strOfNums [((48 + m % 10 : Nat) : Int)] ++ s).data.toList = UInt8.ofNat (48 + m % 10) :: s.data.toList := by
    rw [append_data, strOfNums_data, List.map_singleton, Int.toNat_natCast]
    rfl
  rw [e1, e3, e4]
  refine ⟨_, rfl, ?_, ?_, ?_, ?_⟩
  · rw [hd, List.all_cons, h, Bool.and_true]
    refine digU_iff.2 ?_
    rw [e5]
    omega
  · rw [ByteArray.size_append, strOfNums_size]
    simp
    omega
  · rw [hd, valL_cons, e5]
    congr 1
    omega
  · rw [e2, u64_id (by omega) (by omega)]
    omega
theorem Again_l0 (n a1 : Int) (ha : (Lit.int .u8 a1).wf = true) : ∀ (d : Nat) (x : Int) (s : ByteArray), 0 ≤ x → x < 10 ^ d → x < 18446744073709551616 → s.size + d ≤ 50 → s.data.toList.all digU = true → valL x s.data.toList = n → (0 < x ∨ 0 < s.size) →
    Ev (fun k => catchpitlaw07_ListAgain.l0 k n a1 s x) true := by
  intro d
  induction d with
  | zero =>
    intro x s h1 h2 h3 h4 h5 h6 h7
    obtain rfl : x = 0 := by
      have : (10 : Int) ^ 0 = 1 := rfl
      omega
    exact Again_fin n a1 ha s h5 (by omega) (by omega) h6
  | succ d ih =>
    intro x s h1 h2 h3 h4 h5 h6 h7
    by_cases hx : x = 0
    · subst hx
      exact Again_fin n a1 ha s h5 (by omega) (by omega) h6
    · obtain ⟨s', e1, e2, e3, e4, e5⟩ := Again_digit x h1 h3 s h5
      rw [Int.pow_succ] at h2
      have g := ih (x / 10) s' (by omega) (by omega) (by omega) (by omega) e2 (e4.trans h6) (.inr (by omega))
      refine ev_succ (ev_as g fun k => ?_)
      rw [catchpitlaw07_ListAgain.l0, if_pos (by omega), Option.bind_some, e1, e5, if_pos (by rw [strOfNums_size, List.length_singleton]; omega)]
theorem ListAgain : catchpitlaw07_ListAgain.Pure := by
  intro n a1 hn ha
  obtain ⟨K1, g1⟩ := wakes07
  have hb : 0 ≤ n ∧ n < 18446744073709551616 := by
    have m2 : IntKind.u64.max = 18446744073709551615 := rfl
    have m1 : IntKind.u64.min = 0 := rfl
    simp [Lit.wf, m1, m2] at hn
    omega
  have hp : (10 : Int) ^ 30 = 1000000000000000000000000000000 := by decide
  have key : Ev (fun k => catchpitlaw07_ListAgain.l0 k n a1 (⟨#[]⟩ : ByteArray) n) true := by
    by_cases hx : n = 0
    · subst hx
      obtain ⟨s', e1, e2, e3, e4, e5⟩ := Again_digit 0 (Int.le_refl _) (by decide) ⟨#[]⟩ rfl
      have g := Again_fin 0 a1 ha s' e2 (by omega) (by rw [e3]; decide) e4
      refine ev_succ (ev_as g fun k => ?_)
      rw [catchpitlaw07_ListAgain.l0, if_neg (by decide), if_pos (by decide +kernel), Option.bind_some, e1, e5, if_pos (by rw [strOfNums_size, List.length_singleton]; decide)]
      rfl
    · exact Again_l0 n a1 ha 30 n ⟨#[]⟩ hb.1 (by omega) hb.2 (by decide) rfl rfl (.inl (by omega))
  obtain ⟨K2, g2⟩ := key
  dsimp only at g1 g2
  refine ⟨K1 + K2, ?_⟩
  rw [catchpitlaw07_ListAgain.f, g1 _ (by omega), Option.bind_some, if_pos rfl]
  exact g2 _ (by omega)
end Go.Proofs.YtofegjgiocljlaaDoor.Pure
end
section
namespace Go.Proofs.YtofegjgiocljlaaDoorH
open Go.RowKit Go.ChangeShapes Go.WideShapes Go.ChangeAt
theorem two_of {α : Type} {l : List α} (h : l.length = 2) : ∃ a b, l = [a, b] := by
  match l, h with
  | [a, b], _ => exact ⟨a, b, rfl⟩
theorem three_of {α : Type} {l : List α} (h : l.length = 3) : ∃ a b c, l = [a, b, c] := by
  match l, h with
  | [a, b, c], _ => exact ⟨a, b, c, rfl⟩
theorem six_of {α : Type} {l : List α} (h : l.length = 6) : ∃ a b c d e f, l = [a, b, c, d, e, f] := by
  match l, h with
  | [a, b, c, d, e, f], _ => exact ⟨a, b, c, d, e, f, rfl⟩
theorem cells_of_one {W : World} {cs : List Value} {y : DataW Unit × List MemPlace} {m : Nat} {x0 : Int}
    (hd : DataW.trod (fun _ => ()) Tryd.prog W 0 (fun _ => true) false m 5 cs = some y) (hy : y.1 = .lit (.int .u8 x0)) : cs = [.int .u8 x0] := by
  obtain ⟨n, e1, e2, _⟩ := DataW.trod_int Tryd.underlying5 hd
  rw [e2] at hy
  simp only [DataW.lit.injEq, Lit.int.injEq, true_and] at hy
  rw [e1, hy]
theorem cells_of_pair {W : World} {cs : List Value} {y : DataW Unit × List MemPlace} {m : Nat} {x0 x1 : Int}
    (hd : DataW.trod (fun _ => ()) Tryd.prog W 0 (fun _ => true) false m 95 cs = some y) (hy : y.1 = .agg [.lit (.int .u8 x0), .lit (.int .u8 x1)]) :
    cs = [.int .u8 x0, .int .u8 x1] := by
  have c5 : Tryd.prog.cellsOf 5 = 1 := by kernel_rfl
  have c2 : Tryd.prog.cellsOf 95 = 2 := by kernel_rfl
  obtain ⟨xs, m, _, ex, hn, hl, hel⟩ := DataW.trod_array Tryd.underlying95 hd
  rw [c2] at hn
  obtain ⟨a, b, rfl⟩ := two_of hn
  obtain ⟨u, v, rfl⟩ := two_of hl
  · rw [ex] at hy
    simp only [List.map_cons, List.map_nil, DataW.agg.injEq, List.cons.injEq, and_true] at hy
    have h0 := hel 0 (by omega)
    have h1 := hel 1 (by omega)
    simp only [c5] at h0 h1
    have e0 := cells_of_one (y := u) (by simpa using h0) hy.1
    have e1 := cells_of_one (y := v) (by simpa using h1) hy.2
    simp at e0 e1
    rw [e0, e1]
theorem cells_of_pairs {W : World} {cs : List Value} {y : DataW Unit × List MemPlace} {m : Nat} {x0 x1 x2 x3 x4 x5 : Int}
    (hd : DataW.trod (fun _ => ()) Tryd.prog W 0 (fun _ => true) false m 96 cs = some y)
    (hy : y.1 = .agg [.agg [.lit (.int .u8 x0), .lit (.int .u8 x1)], .agg [.lit (.int .u8 x2), .lit (.int .u8 x3)], .agg [.lit (.int .u8 x4), .lit (.int .u8 x5)]]) :
    cs = [.int .u8 x0, .int .u8 x1, .int .u8 x2, .int .u8 x3, .int .u8 x4, .int .u8 x5] := by
  have c2 : Tryd.prog.cellsOf 95 = 2 := by kernel_rfl
  have c6 : Tryd.prog.cellsOf 96 = 6 := by kernel_rfl
  obtain ⟨xs, m, _, ex, hn, hl, hel⟩ := DataW.trod_array Tryd.underlying96 hd
  rw [c6] at hn
  obtain ⟨a, b, c, d, e, f, rfl⟩ := six_of hn
  obtain ⟨u, v, z, rfl⟩ := three_of hl
  · rw [ex] at hy
    simp only [List.map_cons, List.map_nil, DataW.agg.injEq, List.cons.injEq, and_true] at hy
    have h0 := hel 0 (by omega)
    have h1 := hel 1 (by omega)
    have h2 := hel 2 (by omega)
    simp only [c2] at h0 h1 h2
    have e0 := cells_of_pair (y := u) (by simpa using h0) hy.1
    have e1 := cells_of_pair (y := v) (by simpa using h1) hy.2.1
    have e2 := cells_of_pair (y := z) (by simpa using h2) hy.2.2
    simp at e0 e1 e2
    rw [e0.1, e0.2, e1.1, e1.2, e2.1, e2.2]
theorem tabOk_of_laid {W : World} {L : List (String × DataW Unit)} (h : laidMetH Tryd.prog L W) (hp : (L.all fun x => x.2.handleName?.isNone) = true)
    (hf : L.filter (fun x => x.1 == "catchpit/octet.ends") = [("catchpit/octet.ends", Go.Proofs.YtofegjgiocljlaaDoor.Rows.laid_catchpit_octet_ends)]) (hs : W.ShapedOpen Tryd.prog) : TabOk W := by
  rw [MakeChecks.laidMetH_plain _ _ _ hp] at h
  have h2 := laidMet.filter (fun x => x.1 == "catchpit/octet.ends") h
  rw [hf] at h2
  obtain ⟨ps, ⟨g, t, cs, fuel, p, q, hg, ht, hv, hd, _, _⟩, _, _⟩ := h2
  obtain rfl := Option.some.inj ((show Tryd.prog.globalNamed "catchpit/octet.ends" = some 0 by kernel_rfl).symm.trans hg)
  obtain rfl := Option.some.inj ((show (Tryd.prog.globals[0]?).map (·.type) = some 96 by kernel_rfl).symm.trans ht)
  have e := cells_of_pairs hd rfl
  have hc := World.var?_cell hg hv
  have at_ : ∀ j, cs[j]? = cs.toList[j]? := fun j => (Array.getElem?_toList ..).symm
  rw [e] at at_
  exact ⟨(hc 0).trans (at_ 0), (hc 1).trans (at_ 1), (hc 2).trans (at_ 2), (hc 3).trans (at_ 3), (hc 4).trans (at_ 4), (hc 5).trans (at_ 5), MxOk.of_shaped hs⟩
end Go.Proofs.YtofegjgiocljlaaDoorH
end
section
namespace Go.Proofs.YtofegjgiocljlaaDoorH
open Go.RowKit Go.ChangeShapes Go.WideShapes Go.ChangeAt Go.Proofs.YtofegjgiocljlaaDoorW.PrintWords
def Light {H : Type} (P : Program) (t : TypeId) (d : DataW H) : Prop := ∀ x ∈ DataW.weights P t d, x ≤ reachBytes
structure Opens (P : Program) {α : Type} (d : Kd α) (t : TypeId) (G : α → Prop) : Prop where
  cells : P.cellsOf t = d.sz
  open_ : ∀ {H : Type} {enc : TypeId × Value → H} {W : World} {fuel : Nat} {cs : List Value} {x : DataW H × List MemPlace},
    DataW.trod enc P W 0 (fun _ => true) true fuel t cs = some x → Light P t x.1 → ∃ y, d.K W y cs ∧ G y
theorem Opens.int {P : Program} {t : TypeId} {k : IntKind} (hu : P.underlying t = some (.int k)) (hc : P.cellsOf t = 1) : Opens P (Kd.int k) t (fun n => (Lit.int k n).wf = true) := by
  refine ⟨hc, fun h _ => ?_⟩
  obtain ⟨n, e1, e2, wf⟩ := DataW.trod_int hu h
  exact ⟨n, e1, wf⟩
theorem Opens.bool {P : Program} {t : TypeId} (hu : P.underlying t = some .bool) (hc : P.cellsOf t = 1) : Opens P Kd.bool t (fun _ => True) := by
  refine ⟨hc, fun {_ _ _ fuel cs _} h _ => ?_⟩
  cases fuel with
  | zero => simp [DataW.trod] at h
  | succ m =>
    unfold DataW.trod at h
    rw [hu] at h
    match cs, h with
    | [.bool b], _ => exact ⟨b, rfl, trivial⟩
theorem Opens.string {P : Program} {t : TypeId} (hu : P.underlying t = some .string) (hc : P.cellsOf t = 1) : Opens P Kd.string t (fun s => s.size ≤ 140737488351232) := by
  refine ⟨hc, fun h hl => ?_⟩
  obtain ⟨s, e1, e2, _⟩ := DataW.trod_string hu h
  refine ⟨s, e1, ?_⟩
  subst e2
  have := hl s.data.toList.length (by simp [DataW.weights])
  rw [data_length] at this
  exact this
theorem weightsAll_mem {H : Type} (P : Program) (e : TypeId) : ∀ (l : List (DataW H)) (d : DataW H), d ∈ l → ∀ x ∈ DataW.weights P e d, x ∈ DataW.weightsAll P e l
  | [], d, h, _, _ => by cases h
  | a :: l, d, h, x, hx => by
    rw [DataW.weightsAll]
    rcases List.mem_cons.1 h with rfl | h
    · exact List.mem_append_left _ hx
    · exact List.mem_append_right _ (weightsAll_mem P e l d h x hx)
theorem list_of {α : Type} {p : Nat → α → Prop} : ∀ n : Nat, (∀ i, i < n → ∃ y, p i y) → ∃ l : List α, l.length = n ∧ ∀ i y, l[i]? = some y → p i y
  | 0, _ => ⟨[], rfl, fun i y h => by simp at h⟩
  | n + 1, h => by
    obtain ⟨l, hl, hp⟩ := list_of n (fun i hi => h i (by omega))
    obtain ⟨y, hy⟩ := h n (by omega)
    refine ⟨l ++ [y], by simp [hl], fun i z hz => ?_⟩
    rcases Nat.lt_or_ge i n with hi | hi
    · rw [List.getElem?_append_left (by omega)] at hz
      exact hp i z hz
    · rw [List.getElem?_append_right (by omega), hl] at hz
      rcases Nat.eq_zero_or_pos (i - n) with h0 | h0
      · rw [h0] at hz
        obtain rfl : i = n := by omega
        obtain rfl : y = z := by simpa using hz
        exact hy
      · rw [List.getElem?_eq_none (by simp; omega)] at hz
        cases hz
theorem add_add (a : Addr) (i j : Nat) : (a.add i).add j = a.add (i + j) := by
  unfold Addr.add
  by_cases h1 : i = 0
  · subst h1; simp
  · by_cases h2 : j = 0
    · subst h2; simp [h1]
    · simp [h1, h2, Nat.add_assoc]
theorem cells_at {W : World} {base : Nat} {a : Addr} {n : Nat} {cs : List Value} (h : W.cells? base a n = some cs) : cs.length = n ∧ ∀ (i : Nat) u, cs[i]? = some u → W.cell? (a.add i) = some u := by
  obtain ⟨_, hn, hc⟩ := World.cells?_some h
  refine ⟨hn, fun i u hu => ?_⟩
  have hi : i < n := by
    rcases Nat.lt_or_ge i n with hi | hi
    · exact hi
    · rw [List.getElem?_eq_none (by omega)] at hu; cases hu
  rw [hc i hi, hu]
theorem Opens.slice {P : Program} {α : Type} {d : Kd α} {t e : TypeId} {G : α → Prop} (h : Opens P d e G) (hu : P.underlying t = some (.slice e)) (hc : P.cellsOf t = 1) {B : Nat} (hB : P.bytesOf e = B) :
    Opens P (Kd.slice e d) t (fun l => l.length * B ≤ 140737488351232 ∧ ∀ y ∈ l, G y) := by
  refine ⟨hc, fun {H enc W fuel cs x} hx hl => ?_⟩
  rcases Deep.open_slice hu hx with ⟨rfl, rfl⟩ | ⟨a, len, cap, m, n, D, Pl, rfl, _, hle, hm, hmm, rfl, hel⟩
  · exact ⟨[], ⟨none, 0, rfl, Nat.le_refl _, rfl, by simp, fun h => by simp at h⟩, by simp, fun y hy => by cases hy⟩
  · simp only [if_true] at hmm
    subst hmm
    have hw : (len + (m - len)) * B ≤ 140737488351232 := by
      have := hl ((len + (m - len)) * B) (by
        unfold DataW.weights
        simp only [hu, hB]
        simp)
      exact this
    have hget : ∀ i, i < len → ∃ y, (∃ c, c.length = d.sz ∧ d.K W y c ∧ ∀ j u, c[j]? = some u → W.cell? (a.add (i * d.sz + j)) = some u) ∧ G y := by
      intro i hi
      obtain ⟨cs', h1, h2⟩ := hel i (by omega)
      obtain ⟨y, hy, hg⟩ := h.open_ h2 (fun x hx => hl x (by
        unfold DataW.weights
        simp only [hu]
        refine List.mem_cons_of_mem _ (List.mem_append_left _ (weightsAll_mem P e _ (D i) ?_ x hx))
        exact List.mem_map.2 ⟨i, List.mem_range.2 hi, rfl⟩))
      obtain ⟨hn, hcell⟩ := cells_at h1
      refine ⟨y, ⟨cs', by rw [hn, h.cells], hy, fun j u hj => ?_⟩, hg⟩
      have := hcell j u hj
      rw [add_add, h.cells] at this
      exact this
    obtain ⟨l, hll, hat⟩ := list_of len hget
    refine ⟨l, ⟨some a, m, by rw [hll], by omega, rfl, by rw [hll]; unfold maxLen at hm; omega, fun _ => ⟨a, rfl, fun j p hj => (hat j p hj).1⟩⟩, ?_, fun y hy => ?_⟩
    · rw [hll]
      exact Nat.le_trans (Nat.mul_le_mul_right _ (by omega)) hw
    · obtain ⟨i, hi, rfl⟩ := List.mem_iff_getElem.1 hy
      exact (hat i _ (List.getElem?_eq_getElem hi)).2
end Go.Proofs.YtofegjgiocljlaaDoorH
end
section
namespace Go.Proofs.YtofegjgiocljlaaDoorH
open Go
variable {H : Type} {enc : TypeId × Value → H}
theorem returns_and_shaped {a : Assume} {C : Checked} {os : Os} {f : FuncId} {fn : Func} {s : ChangeSpec} {conds : List PathCond} {apart fresh handsOn again : Bool} {X : World → Array Value → Prop}
    (hX : ∀ (w w' : World) (args : Array Value), w.heap = w'.heap → X w args → X w' args)
    (own : ownKnob C.prog.godebug = none) (started : os.Started) (noInit : C.prog.inits.idxOf? f = none) (hfn : C.prog.funcs[f]? = some fn)
    (witness : ∃ (w : World) (tape : Tape) (i : Input), w.os = os ∧ (w.forCall tape i).Shaped C.prog ∧ i.vars = [] ∧ Input.okWide C.prog (w.forCall tape i) .any w.heap.size f i ∧
      ((s.pre enc C.prog fn conds apart (w.forCall tape i).memory i.args ∧ X (w.forCall tape i).memory i.args) ∧ sizedMet enc C.prog fn (OpenSpec.ofChange s) apart (w.forCall tape i).memory i.args) ∧ a.holds C.prog (lone (Frame.enter C.prog f i.args .normal) [] (w.forCall tape i)))
    (contract : ∀ (W : World) (base : Nat) (args : Array Value) (ds gs : List (DataW H)) (before : List MemPlace),
      (∀ (j : Nat) t v, fn.params[j]? = some t → args[j]? = some v → Value.okWide C.prog W .any base t v) →
      DataW.Whole enc C.prog fn.params.toList s.vars apart W args.toList ds gs before →
      conds.all (PathCond.test C.prog ⟨fn.params.toList, ds, s.plain.varTypes C.prog, gs⟩) = true →
      (DataW.weightsEach C.prog (fn.params.toList ++ s.plain.varTypes C.prog) (ds ++ gs)).all (· ≤ reachBytes) = true → X W args →
      W.ShapedOpen C.prog →
      a.holds C.prog (lone (Frame.enter C.prog f args .normal) [] W) →
      Calls C.prog f args W fun e W' => ∃ v, e = .returned v ∧ s.post enc C.prog fn apart fresh handsOn again W args v W') :
    ReturnsInHanded a C os f .any (fun w args => (s.pre enc C.prog fn conds apart w args ∧ X w args) ∧ sizedMet enc C.prog fn (OpenSpec.ofChange s) apart w args) (s.post enc C.prog fn apart fresh handsOn again) := by
  refine returnsInHanded_of_calls own started noInit witness ?_
  intro w tape i _ hsh _ hok hpre hholds
  obtain ⟨_, _, _, fn', hfn', _, _, _, _, hval⟩ := hok
  have e : fn' = fn := Option.some.inj (hfn'.symm.trans hfn)
  subst e
  obtain ⟨⟨⟨ds, gs, before, hw, hc⟩, hx⟩, hz⟩ := hpre
  have hw' := DataW.Whole.of_heap (w' := w.forCall tape i) (by rfl) hw
  refine (contract (w.forCall tape i) w.heap.size i.args ds gs before hval hw' hc (hz.weights hw) (hX _ _ _ (by rfl) hx) hsh hholds).mono fun e W' ⟨v, he, hp⟩ => ?_
  subst he
  exact ChangeSpec.post_blind hp
end Go.Proofs.YtofegjgiocljlaaDoorH
end
