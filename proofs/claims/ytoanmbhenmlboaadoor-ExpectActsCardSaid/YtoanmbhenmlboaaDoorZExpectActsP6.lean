import Derived.Test.YtoanmbhenmlboaaDoorZExpectActsP3
import Derived.Test.YtoanmbhenmlboaaDoorZExpectActsP1
import Derived.Test.YtoanmbhenmlboaaDoorZExpectActsP5
section
namespace Go.Proofs.YtoanmbhenmlboaaDoor.Pr
open Go.RowKit Go.Proofs.YtoanmbhenmlboaaDoorH Go.Proofs.YtoanmbhenmlboaaDoorW.PrintWords Go.Proofs.YtoanmbhenmlboaaDoorW.PrintLast Go.Proofs.YtoanmbhenmlboaaDoorW.PrintMore
attribute [local go_sem] max2_int min2_int max_two min_two max_three min_three max_four min_four   -- for this text's walks alone
set_option linter.unusedVariables false
set_option linter.unusedSimpArgs false
mutual
def catchpitref20_Origin.j0 : Nat → Int → Bool → Int → Int → Int → Option (Int × Int × Int × Int)
  | 0, _, _, _, _, _ => none
  | k + 1, x1, x11, x372000, x372001, x372002 => if x11 = true then (some (x372000, x372001, x372002, 1)) else (if x372000 = 1 then (catchpitref20_Origin.j1 k x1 (x1 == 100) x372000 x372001 x372002) else (catchpitref20_Origin.j1 k x1 false x372000 x372001 x372002))
def catchpitref20_Origin.j1 : Nat → Int → Bool → Int → Int → Int → Option (Int × Int × Int × Int)
  | 0, _, _, _, _, _ => none
  | k + 1, x1, x19, x372000, x372001, x372002 => if x19 = true then (if 2 = 1 then (if x1 ≥ 200 then (some (3, x372001, x372002, 0)) else (some (2, x372001, x372002, 0))) else (some (2, x372001, x372002, 0))) else (if x372000 = 1 then (if x1 ≥ 200 then (some (3, x372001, x372002, 0)) else (some (x372000, x372001, x372002, 0))) else (some (x372000, x372001, x372002, 0)))
end
def catchpitref20_Origin.f (k : Nat) (a0_0 : Int) (a0_1 : Int) (a0_2 : Int) (a1 : Int) : Option (Int × Int × Int × Int) := if a1 < 100 then (catchpitref20_Origin.j0 k a1 true a0_0 a0_1 a0_2) else (catchpitref20_Origin.j0 k a1 (decide (a1 > 999)) a0_0 a0_1 a0_2)
theorem catchpitref20_Origin.mono_l : ∀ k, (∀ y0 y1 y2 y3 y4, LeO (catchpitref20_Origin.j0 k y0 y1 y2 y3 y4) (catchpitref20_Origin.j0 (k + 1) y0 y1 y2 y3 y4)) ∧ (∀ y0 y1 y2 y3 y4, LeO (catchpitref20_Origin.j1 k y0 y1 y2 y3 y4) (catchpitref20_Origin.j1 (k + 1) y0 y1 y2 y3 y4))
  | 0 => ⟨fun _ _ _ _ _ r h => by simp [catchpitref20_Origin.j0] at h, fun _ _ _ _ _ r h => by simp [catchpitref20_Origin.j1] at h⟩
  | k + 1 => by
    obtain ⟨ih0, ih1⟩ := catchpitref20_Origin.mono_l k
    refine ⟨?_, ?_⟩
    · intro y0 y1 y2 y3 y4
      unfold catchpitref20_Origin.j0
      repeat' first
      | (with_reducible exact ih0 _ _ _ _ _)
      | (with_reducible exact ih1 _ _ _ _ _)
      | (with_reducible exact LeO.refl _)
      | (with_reducible exact LeO.none _)
      | (with_reducible refine LeO.ite ?_ ?_)
      | (with_reducible refine LeO.bind ?_ (fun _ => ?_))
      | exact ih0 _ _ _ _ _
      | exact ih1 _ _ _ _ _
      | exact LeO.none _
      | refine LeO.ite ?_ ?_
      | refine LeO.bind ?_ (fun _ => ?_)
    · intro y0 y1 y2 y3 y4
      unfold catchpitref20_Origin.j1
      repeat' first
      | (with_reducible exact ih0 _ _ _ _ _)
      | (with_reducible exact ih1 _ _ _ _ _)
      | (with_reducible exact LeO.refl _)
      | (with_reducible exact LeO.none _)
      | (with_reducible refine LeO.ite ?_ ?_)
      | (with_reducible refine LeO.bind ?_ (fun _ => ?_))
      | exact ih0 _ _ _ _ _
      | exact ih1 _ _ _ _ _
      | exact LeO.none _
      | refine LeO.ite ?_ ?_
      | refine LeO.bind ?_ (fun _ => ?_)
theorem catchpitref20_Origin.mono : ∀ a0 a1 a2 a3 k, LeO (catchpitref20_Origin.f k a0 a1 a2 a3) (catchpitref20_Origin.f (k + 1) a0 a1 a2 a3) := by
  intro a0 a1 a2 a3 k
  obtain ⟨ih0, ih1⟩ := catchpitref20_Origin.mono_l k
  unfold catchpitref20_Origin.f
  repeat' first
      | (with_reducible exact ih0 _ _ _ _ _)
      | (with_reducible exact ih1 _ _ _ _ _)
      | (with_reducible exact LeO.refl _)
      | (with_reducible exact LeO.none _)
      | (with_reducible refine LeO.ite ?_ ?_)
      | (with_reducible refine LeO.bind ?_ (fun _ => ?_))
      | exact ih0 _ _ _ _ _
      | exact ih1 _ _ _ _ _
      | exact LeO.none _
      | refine LeO.ite ?_ ?_
      | refine LeO.bind ?_ (fun _ => ?_)
set_option maxHeartbeats 8000000 in
set_option maxRecDepth 100000 in
theorem catchpitref20_Origin.calls (k : Nat) (a0_0 : Int) (a0_1 : Int) (a0_2 : Int) (a1 : Int) (r1 : Int) (r2 : Int) (r3 : Int) (r4 : Int) (w : World) (hG : TabOk w) (h : catchpitref20_Origin.f k a0_0 a0_1 a0_2 a1 = some (r1, r2, r3, r4)) :
    Calls Tryd.prog 20 #[.agg #[.int .i64 a0_0, .int .i64 a0_1, .int .i64 a0_2], .int .i64 a1] w fun e w' => e = .returned (.tuple #[.agg #[.int .i64 r1, .int .i64 r2, .int .i64 r3], .int .i64 r4]) ∧ Below w.heap.size w w' := by
  have hu36 := Tryd.underlying36
  have HB := Aside0.mk (Below.refl w.heap.size w)
  have H : (if a1 < 100 then (catchpitref20_Origin.j0 k a1 true a0_0 a0_1 a0_2) else (catchpitref20_Origin.j0 k a1 (decide (a1 > 999)) a0_0 a0_1 a0_2)) = some (r1, r2, r3, r4) := h
  clear h
  have HC3 := Aside0.mk H
  clear H
  go_enter Tryd.func20, Tryd.ntmps20
  go_upto_region 1 with (first | ((with_reducible refine gate_dst (N := 2) rfl ?_); refine box_event ?hg (N := 2) ?hd (cs := #[.int .i64 a0_0, .int .i64 a0_1, .int .i64 a0_2]) (t := 36) ?hr ?_; (case hd => rfl); (case hg => rfl); (case hr => first | (go_simp; done) | (go_simp; rfl)); intro gb371 hg w4 hbox hb; have n0_ := Aside0.mk (below_step (by repeat (first | (with_reducible first | exact HB.out | apply below_alloc | apply pw_below_drewN | apply below_drew1) | exact HB.out)) hb); have n1_ := Aside0.mk (hbox); have n2_ := Aside0.mk ((by rw [hg]; exact (below_size (by repeat (first | (with_reducible first | exact HB.out | apply below_alloc | apply pw_below_drewN | apply below_drew1) | exact HB.out))) : w.heap.size ≤ gb371)); have n3_ := Aside0.mk ((by rw [hg]; exact (below_size (by repeat (first | (with_reducible first | exact HB.out | apply below_alloc | apply pw_below_drewN | apply below_drew1) | exact HB.out))) : w.heap.size ≤ gb371)); clear HB; have HB := n0_; have BK371 := n1_; have GW371 := n2_; have GE371 := n3_; clear n0_ n1_ n2_ n3_; clear hb hbox hg) | ((with_reducible refine gate_dst (N := 4) rfl ?_); refine box_event ?hg (N := 4) ?hd (cs := #[.int .i64 0, .int .i64 0, .int .i64 0]) (t := 36) ?hr ?_; (case hd => rfl); (case hg => rfl); (case hr => first | (go_simp; done) | (go_simp; rfl)); intro gb372 hg w5 hbox hb; have n0_ := Aside0.mk (blk_below (g := gb371) (o := .cells #[.int .i64 a0_0, .int .i64 a0_1, .int .i64 a0_2] 36 (0, 0)) (by (with_reducible repeat (first | refine blk_drewN ?_ _ | refine blk_drew ?_ | refine blk_alloc ?_ _)); exact BK371.out) hb); have n1_ := Aside0.mk (below_step (by repeat (first | (with_reducible first | exact HB.out | apply below_alloc | apply pw_below_drewN | apply below_drew1 | refine below_set ?_ GE371.out) | exact HB.out)) hb); have n2_ := Aside0.mk (hbox); have n3_ := Aside0.mk ((by rw [hg]; exact (below_size (by repeat (first | (with_reducible first | exact HB.out | apply below_alloc | apply pw_below_drewN | apply below_drew1 | refine below_set ?_ GE371.out) | exact HB.out))) : w.heap.size ≤ gb372)); have n4_ := Aside0.mk ((by rw [hg]; exact (below_size (by repeat (first | (with_reducible first | exact HB.out | apply below_alloc | apply pw_below_drewN | apply below_drew1 | refine below_set ?_ GE371.out) | exact HB.out))) : w.heap.size ≤ gb372)); have n5_ := Aside0.mk ((by rw [hg]; exact Nat.ne_of_lt (blk_lt (g := gb371) (o := .cells #[.int .i64 a0_0, .int .i64 a0_1, .int .i64 a0_2] 36 (0, 0)) (by (with_reducible repeat (first | refine blk_drewN ?_ _ | refine blk_drew ?_ | refine blk_alloc ?_ _)); exact BK371.out)) : gb371 ≠ gb372)); have n6_ := Aside0.mk ((by rw [hg]; exact Nat.ne_of_gt (blk_lt (g := gb371) (o := .cells #[.int .i64 a0_0, .int .i64 a0_1, .int .i64 a0_2] 36 (0, 0)) (by (with_reducible repeat (first | refine blk_drewN ?_ _ | refine blk_drew ?_ | refine blk_alloc ?_ _)); exact BK371.out)) : gb372 ≠ gb371)); clear BK371; clear HB; have BK371 := n0_; have HB := n1_; have BK372 := n2_; have GW372 := n3_; have GE372 := n4_; have NB371_372 := n5_; have NB372_371 := n6_; clear n0_ n1_ n2_ n3_ n4_ n5_ n6_; clear hb hbox hg))
  (try simp only [Act.put, List.setIfInBounds_toArray, List.set_cons_zero, List.set_cons_succ])
  go_cut [11] (fun v11 wc => ∃ (kq : Nat) (x11_2 : Bool), v11 = .bool x11_2 ∧ Aside0 (catchpitref20_Origin.j0 kq a1 x11_2 a0_0 a0_1 a0_2 = some (r1, r2, r3, r4)) ∧ Aside0 (kq ≤ k) ∧ Aside0 (wc.heap[gb371]? = some (.cells #[.int .i64 a0_0, .int .i64 a0_1, .int .i64 a0_2] 36 (0, 0))) ∧ Aside0 (wc.heap[gb372]? = some (.cells #[.int .i64 0, .int .i64 0, .int .i64 0] 36 (0, 0))) ∧ Aside0 (Below w.heap.size w wc))
  case first =>
    have H := HC3.out
    clear HC3
    by_cases c6 : a1 < 100
    · rw [if_pos c6] at H
      have c6b0 : decide (a1 < 100) = true := decide_eq_true c6
      clear c6
      (first | rw [c6b0] | (simp only [i64_w, i32_w]; rw [c6b0]) | skip)
      have H' := Aside0.mk H
      clear H
      go_wp2
      go_meet
      case rel => exact ⟨_, (true), (by first | rfl | (simp; done) | (simp [*]; done)), H', ⟨by first | omega | exact Nat.le_refl _⟩, ⟨by (with_reducible repeat (first | refine blk_drewN ?_ _ | refine blk_drew ?_ | refine blk_alloc ?_ _)); exact BK371.out⟩, ⟨by (with_reducible repeat (first | refine blk_drewN ?_ _ | refine blk_drew ?_ | refine blk_alloc ?_ _)); exact BK372.out⟩, ⟨by repeat (first | (with_reducible first | exact HB.out | apply below_alloc | apply pw_below_drewN | apply below_drew1 | refine below_set ?_ GE371.out | refine below_set ?_ GE372.out) | exact HB.out)⟩⟩
    · rw [if_neg c6] at H
      have c6b0 : decide (a1 < 100) = false := decide_eq_false c6
      clear c6
      (first | rw [c6b0] | (simp only [i64_w, i32_w]; rw [c6b0]) | skip)
      have H' := Aside0.mk H
      clear H
      go_wp2
      go_meet
      case rel => exact ⟨_, (decide (a1 > 999)), (by first | rfl | (simp; done) | (simp [*]; done)), H', ⟨by first | omega | exact Nat.le_refl _⟩, ⟨by (with_reducible repeat (first | refine blk_drewN ?_ _ | refine blk_drew ?_ | refine blk_alloc ?_ _)); exact BK371.out⟩, ⟨by (with_reducible repeat (first | refine blk_drewN ?_ _ | refine blk_drew ?_ | refine blk_alloc ?_ _)); exact BK372.out⟩, ⟨by repeat (first | (with_reducible first | exact HB.out | apply below_alloc | apply pw_below_drewN | apply below_drew1 | refine below_set ?_ GE371.out | refine below_set ?_ GE372.out) | exact HB.out)⟩⟩
  case rest =>
    clear HC3
    try clear c2
    try clear p2
    try clear c6
    try clear c6b0
    obtain ⟨kq, x11_2, rfl, HA, HJ2, BK371, BK372, HB⟩ := hcut
    cases kq with
    | zero => exact absurd HA.out (by simp [catchpitref20_Origin.j0])
    | succ kj2 =>
      have H := HA.out
      clear HA
      simp only [catchpitref20_Origin.j0] at H
      by_cases c7 : x11_2 = true
      · subst c7
        have H1 : (some (a0_0, a0_1, a0_2, 1)) = some (r1, r2, r3, r4) := by rw [if_pos rfl] at H; exact H
        clear H
        have H := H1
        clear H1
        simp only [Option.some.injEq, Prod.mk.injEq] at H
        obtain ⟨rfl, rfl, rfl, rfl⟩ := H
        have hnb8 := NB371_372.out
        have hnc8 := NB372_371.out
        have hcz9_0 : wc.cell? ⟨gb371, 0, none⟩ = some (.int .i64 a0_0) := (blk_cell BK371.out 0).trans rfl
        have hcz9_1 : wc.cell? ⟨gb371, 1, none⟩ = some (.int .i64 a0_1) := (blk_cell BK371.out 1).trans rfl
        have hcz9_2 : wc.cell? ⟨gb371, 2, none⟩ = some (.int .i64 a0_2) := (blk_cell BK371.out 2).trans rfl
        have hfz9_0 := blk_frozen BK371.out 0
        have hfz9_1 := blk_frozen BK371.out 1
        have hfz9_2 := blk_frozen BK371.out 2
        have hcz10_0 : wc.cell? ⟨gb372, 0, none⟩ = some (.int .i64 0) := (blk_cell BK372.out 0).trans rfl
        have hcz10_1 : wc.cell? ⟨gb372, 1, none⟩ = some (.int .i64 0) := (blk_cell BK372.out 1).trans rfl
        have hcz10_2 : wc.cell? ⟨gb372, 2, none⟩ = some (.int .i64 0) := (blk_cell BK372.out 2).trans rfl
        have hfz10_0 := blk_frozen BK372.out 0
        have hfz10_1 := blk_frozen BK372.out 1
        have hfz10_2 := blk_frozen BK372.out 2
        go_wp2
        refine bodyPost_ret (results_ct rfl _ _ gb372 36 #[.int .i64 a0_0, .int .i64 a0_1, .int .i64 a0_2] (0, 0) _ rfl (by (with_reducible repeat (first | refine blk_drewN ?_ _ | refine blk_drew ?_ | refine blk_alloc ?_ _)); refine blk_put (cs := #[.int .i64 a0_0, .int .i64 a0_1, .int .i64 0]) ?_ 2 _ rfl; (with_reducible repeat (first | refine blk_drewN ?_ _ | refine blk_drew ?_ | refine blk_alloc ?_ _)); refine blk_put (cs := #[.int .i64 a0_0, .int .i64 0, .int .i64 0]) ?_ 1 _ rfl; (with_reducible repeat (first | refine blk_drewN ?_ _ | refine blk_drew ?_ | refine blk_alloc ?_ _)); refine blk_put (cs := #[.int .i64 0, .int .i64 0, .int .i64 0]) ?_ 0 _ rfl; (with_reducible repeat (first | refine blk_drewN ?_ _ | refine blk_drew ?_ | refine blk_alloc ?_ _)); exact BK372.out) Tryd.underlying36 rfl (by kernel_rfl)) rfl ?_
        exact ⟨by first | rfl | (simp [errW_none, errW_some] <;> rfl) | (simp [*, errW_none, errW_some] <;> rfl), by repeat (first | (with_reducible first | exact HB.out | apply below_alloc | apply pw_below_drewN | apply below_drew1 | refine below_set ?_ GE371.out | refine below_set ?_ GE372.out) | exact HB.out)⟩
      · replace c7 := Bool.eq_false_iff.mpr c7
        subst c7
        have H1 : (if a0_0 = 1 then (catchpitref20_Origin.j1 kj2 a1 (a1 == 100) a0_0 a0_1 a0_2) else (catchpitref20_Origin.j1 kj2 a1 false a0_0 a0_1 a0_2)) = some (r1, r2, r3, r4) := by rw [if_neg (show ¬ (false = true) by decide)] at H; exact H
        clear H
        have H := H1
        clear H1
        have HC11 := Aside0.mk H
        clear H
        go_upto_region 3 with (fail)
        go_cut [19] (fun v19 wc => ∃ (kq : Nat) (x19_10 : Bool), v19 = .bool x19_10 ∧ Aside0 (catchpitref20_Origin.j1 kq a1 x19_10 a0_0 a0_1 a0_2 = some (r1, r2, r3, r4)) ∧ Aside0 (kq ≤ kj2) ∧ Aside0 (wc.heap[gb371]? = some (.cells #[.int .i64 a0_0, .int .i64 a0_1, .int .i64 a0_2] 36 (0, 0))) ∧ Aside0 (wc.heap[gb372]? = some (.cells #[.int .i64 0, .int .i64 0, .int .i64 0] 36 (0, 0))) ∧ Aside0 (Below w.heap.size w wc))
        case first =>
          have H := HC11.out
          clear HC11
          by_cases c12 : a0_0 = 1
          · rw [if_pos c12] at H
            have c12b0 : (a0_0 == 1) = true := beq_iff_eq.mpr c12
            have c12b1 : (a0_0 != 1) = false := bne_eq_false_iff_eq.mpr c12
            clear c12
            (first | rw [c12b0] | (simp only [i64_w, i32_w]; rw [c12b0]) | skip)
            have H' := Aside0.mk H
            clear H
            have hnb13 := NB371_372.out
            have hnc13 := NB372_371.out
            have hcz14_0 : wc.cell? ⟨gb371, 0, none⟩ = some (.int .i64 a0_0) := (blk_cell BK371.out 0).trans rfl
            have hcz14_1 : wc.cell? ⟨gb371, 1, none⟩ = some (.int .i64 a0_1) := (blk_cell BK371.out 1).trans rfl
            have hcz14_2 : wc.cell? ⟨gb371, 2, none⟩ = some (.int .i64 a0_2) := (blk_cell BK371.out 2).trans rfl
            have hfz14_0 := blk_frozen BK371.out 0
            have hfz14_1 := blk_frozen BK371.out 1
            have hfz14_2 := blk_frozen BK371.out 2
            go_wp2
            go_meet
            case rel => exact ⟨_, ((a1 == 100)), (by first | rfl | (simp; done) | (simp [*]; done)), H', ⟨by have := HJ2.out; first | omega | exact Nat.le_refl _⟩, ⟨by (with_reducible repeat (first | refine blk_drewN ?_ _ | refine blk_drew ?_ | refine blk_alloc ?_ _)); exact BK371.out⟩, ⟨by (with_reducible repeat (first | refine blk_drewN ?_ _ | refine blk_drew ?_ | refine blk_alloc ?_ _)); exact BK372.out⟩, ⟨by repeat (first | (with_reducible first | exact HB.out | apply below_alloc | apply pw_below_drewN | apply below_drew1 | refine below_set ?_ GE371.out | refine below_set ?_ GE372.out) | exact HB.out)⟩⟩
          · rw [if_neg c12] at H
            have c12b0 : (a0_0 == 1) = false := beq_eq_false_iff_ne.mpr c12
            have c12b1 : (a0_0 != 1) = true := bne_iff_ne.mpr c12
            (first | rw [c12b0] | (simp only [i64_w, i32_w]; rw [c12b0]) | skip)
            have H' := Aside0.mk H
            clear H
            have hnb15 := NB371_372.out
            have hnc15 := NB372_371.out
            have hcz16_0 : wc.cell? ⟨gb371, 0, none⟩ = some (.int .i64 a0_0) := (blk_cell BK371.out 0).trans rfl
            have hcz16_1 : wc.cell? ⟨gb371, 1, none⟩ = some (.int .i64 a0_1) := (blk_cell BK371.out 1).trans rfl
            have hcz16_2 : wc.cell? ⟨gb371, 2, none⟩ = some (.int .i64 a0_2) := (blk_cell BK371.out 2).trans rfl
            have hfz16_0 := blk_frozen BK371.out 0
            have hfz16_1 := blk_frozen BK371.out 1
            have hfz16_2 := blk_frozen BK371.out 2
            go_wp2
            go_meet
            case rel => exact ⟨_, (false), (by first | rfl | (simp; done) | (simp [*]; done)), H', ⟨by have := HJ2.out; first | omega | exact Nat.le_refl _⟩, ⟨by (with_reducible repeat (first | refine blk_drewN ?_ _ | refine blk_drew ?_ | refine blk_alloc ?_ _)); exact BK371.out⟩, ⟨by (with_reducible repeat (first | refine blk_drewN ?_ _ | refine blk_drew ?_ | refine blk_alloc ?_ _)); exact BK372.out⟩, ⟨by repeat (first | (with_reducible first | exact HB.out | apply below_alloc | apply pw_below_drewN | apply below_drew1 | refine below_set ?_ GE371.out | refine below_set ?_ GE372.out) | exact HB.out)⟩⟩
        case rest =>
          clear HC11
          try clear c1
          try clear c2
          try clear p2
          try clear c6
          try clear c6b0
          try clear c7
          try clear c8
          try clear c12
          try clear c12b0
          try clear c12b1
          try clear c13
          try clear c15
          try clear hcz10_0
          try clear hcz10_1
          try clear hcz10_2
          try clear hcz14_0
          try clear hcz14_1
          try clear hcz14_2
          try clear hcz16_0
          try clear hcz16_1
          try clear hcz16_2
          try clear hcz9_0
          try clear hcz9_1
          try clear hcz9_2
          try clear hfz10_0
          try clear hfz10_1
          try clear hfz10_2
          try clear hfz14_0
          try clear hfz14_1
          try clear hfz14_2
          try clear hfz16_0
          try clear hfz16_1
          try clear hfz16_2
          try clear hfz9_0
          try clear hfz9_1
          try clear hfz9_2
          try clear p2
          obtain ⟨kq, x19_10, rfl, HA, HJ10, BK371, BK372, HB⟩ := hcut
          cases kq with
          | zero => exact absurd HA.out (by simp [catchpitref20_Origin.j1])
          | succ kj10 =>
            have H := HA.out
            clear HA
            simp only [catchpitref20_Origin.j1] at H
            by_cases c17 : x19_10 = true
            · subst c17
              have H1 : (if 2 = 1 then (if a1 ≥ 200 then (some (3, a0_1, a0_2, 0)) else (some (2, a0_1, a0_2, 0))) else (some (2, a0_1, a0_2, 0))) = some (r1, r2, r3, r4) := by rw [if_pos rfl] at H; exact H
              clear H
              have H := H1
              clear H1
              by_cases c18 : 2 = 1
              · exact absurd c18 (by decide)
              · rw [if_neg c18] at H
                have c18b0 : (2 == 1) = false := beq_eq_false_iff_ne.mpr c18
                have c18b1 : (2 != 1) = true := bne_iff_ne.mpr c18
                simp only [Option.some.injEq, Prod.mk.injEq] at H
                obtain ⟨rfl, rfl, rfl, rfl⟩ := H
                have hnb26 := NB371_372.out
                have hnc26 := NB372_371.out
                have hcz27_0 : wc.cell? ⟨gb371, 0, none⟩ = some (.int .i64 a0_0) := (blk_cell BK371.out 0).trans rfl
                have hcz27_1 : wc.cell? ⟨gb371, 1, none⟩ = some (.int .i64 a0_1) := (blk_cell BK371.out 1).trans rfl
                have hcz27_2 : wc.cell? ⟨gb371, 2, none⟩ = some (.int .i64 a0_2) := (blk_cell BK371.out 2).trans rfl
                have hfz27_0 := blk_frozen BK371.out 0
                have hfz27_1 := blk_frozen BK371.out 1
                have hfz27_2 := blk_frozen BK371.out 2
                have hcz28_0 : wc.cell? ⟨gb372, 0, none⟩ = some (.int .i64 0) := (blk_cell BK372.out 0).trans rfl
                have hcz28_1 : wc.cell? ⟨gb372, 1, none⟩ = some (.int .i64 0) := (blk_cell BK372.out 1).trans rfl
                have hcz28_2 : wc.cell? ⟨gb372, 2, none⟩ = some (.int .i64 0) := (blk_cell BK372.out 2).trans rfl
                have hfz28_0 := blk_frozen BK372.out 0
                have hfz28_1 := blk_frozen BK372.out 1
                have hfz28_2 := blk_frozen BK372.out 2
                go_wp2
                refine bodyPost_ret (results_ct rfl _ _ gb372 36 #[.int .i64 2, .int .i64 a0_1, .int .i64 a0_2] (0, 0) _ rfl (by (with_reducible repeat (first | refine blk_drewN ?_ _ | refine blk_drew ?_ | refine blk_alloc ?_ _)); refine blk_put (cs := #[.int .i64 2, .int .i64 a0_1, .int .i64 0]) ?_ 2 _ rfl; (with_reducible repeat (first | refine blk_drewN ?_ _ | refine blk_drew ?_ | refine blk_alloc ?_ _)); refine blk_put (cs := #[.int .i64 2, .int .i64 0, .int .i64 0]) ?_ 1 _ rfl; (with_reducible repeat (first | refine blk_drewN ?_ _ | refine blk_drew ?_ | refine blk_alloc ?_ _)); refine blk_put (cs := #[.int .i64 0, .int .i64 0, .int .i64 0]) ?_ 0 _ rfl; (with_reducible repeat (first | refine blk_drewN ?_ _ | refine blk_drew ?_ | refine blk_alloc ?_ _)); refine blk_far ?_ NB372_371.out _; (with_reducible repeat (first | refine blk_drewN ?_ _ | refine blk_drew ?_ | refine blk_alloc ?_ _)); exact BK372.out) Tryd.underlying36 rfl (by kernel_rfl)) rfl ?_
                exact ⟨by first | rfl | (simp [errW_none, errW_some] <;> rfl) | (simp [*, errW_none, errW_some] <;> rfl), by repeat (first | (with_reducible first | exact HB.out | apply below_alloc | apply pw_below_drewN | apply below_drew1 | refine below_set ?_ GE371.out | refine below_set ?_ GE372.out) | exact HB.out)⟩
            · replace c17 := Bool.eq_false_iff.mpr c17
              subst c17
              have H1 : (if a0_0 = 1 then (if a1 ≥ 200 then (some (3, a0_1, a0_2, 0)) else (some (a0_0, a0_1, a0_2, 0))) else (some (a0_0, a0_1, a0_2, 0))) = some (r1, r2, r3, r4) := by rw [if_neg (show ¬ (false = true) by decide)] at H; exact H
              clear H
              have H := H1
              clear H1
              by_cases c29 : a0_0 = 1
              · rw [if_pos c29] at H
                have c29b0 : (a0_0 == 1) = true := beq_iff_eq.mpr c29
                have c29b1 : (a0_0 != 1) = false := bne_eq_false_iff_eq.mpr c29
                clear c29
                by_cases c30 : a1 ≥ 200
                · rw [if_pos c30] at H
                  have c30b0 : decide (200 ≤ a1) = true := decide_eq_true c30
                  clear c30
                  simp only [Option.some.injEq, Prod.mk.injEq] at H
                  obtain ⟨rfl, rfl, rfl, rfl⟩ := H
                  have hnb31 := NB371_372.out
                  have hnc31 := NB372_371.out
                  have hcz32_0 : wc.cell? ⟨gb371, 0, none⟩ = some (.int .i64 a0_0) := (blk_cell BK371.out 0).trans rfl
                  have hcz32_1 : wc.cell? ⟨gb371, 1, none⟩ = some (.int .i64 a0_1) := (blk_cell BK371.out 1).trans rfl
                  have hcz32_2 : wc.cell? ⟨gb371, 2, none⟩ = some (.int .i64 a0_2) := (blk_cell BK371.out 2).trans rfl
                  have hfz32_0 := blk_frozen BK371.out 0
                  have hfz32_1 := blk_frozen BK371.out 1
                  have hfz32_2 := blk_frozen BK371.out 2
                  have hcz33_0 : wc.cell? ⟨gb372, 0, none⟩ = some (.int .i64 0) := (blk_cell BK372.out 0).trans rfl
                  have hcz33_1 : wc.cell? ⟨gb372, 1, none⟩ = some (.int .i64 0) := (blk_cell BK372.out 1).trans rfl
                  have hcz33_2 : wc.cell? ⟨gb372, 2, none⟩ = some (.int .i64 0) := (blk_cell BK372.out 2).trans rfl
                  have hfz33_0 := blk_frozen BK372.out 0
                  have hfz33_1 := blk_frozen BK372.out 1
                  have hfz33_2 := blk_frozen BK372.out 2
                  go_wp2
                  refine bodyPost_ret (results_ct rfl _ _ gb372 36 #[.int .i64 3, .int .i64 a0_1, .int .i64 a0_2] (0, 0) _ rfl (by (with_reducible repeat (first | refine blk_drewN ?_ _ | refine blk_drew ?_ | refine blk_alloc ?_ _)); refine blk_put (cs := #[.int .i64 3, .int .i64 a0_1, .int .i64 0]) ?_ 2 _ rfl; (with_reducible repeat (first | refine blk_drewN ?_ _ | refine blk_drew ?_ | refine blk_alloc ?_ _)); refine blk_put (cs := #[.int .i64 3, .int .i64 0, .int .i64 0]) ?_ 1 _ rfl; (with_reducible repeat (first | refine blk_drewN ?_ _ | refine blk_drew ?_ | refine blk_alloc ?_ _)); refine blk_put (cs := #[.int .i64 0, .int .i64 0, .int .i64 0]) ?_ 0 _ rfl; (with_reducible repeat (first | refine blk_drewN ?_ _ | refine blk_drew ?_ | refine blk_alloc ?_ _)); refine blk_far ?_ NB372_371.out _; (with_reducible repeat (first | refine blk_drewN ?_ _ | refine blk_drew ?_ | refine blk_alloc ?_ _)); exact BK372.out) Tryd.underlying36 rfl (by kernel_rfl)) rfl ?_
                  exact ⟨by first | rfl | (simp [errW_none, errW_some] <;> rfl) | (simp [*, errW_none, errW_some] <;> rfl), by repeat (first | (with_reducible first | exact HB.out | apply below_alloc | apply pw_below_drewN | apply below_drew1 | refine below_set ?_ GE371.out | refine below_set ?_ GE372.out) | exact HB.out)⟩
                · rw [if_neg c30] at H
                  have c30b0 : decide (200 ≤ a1) = false := decide_eq_false c30
                  clear c30
                  simp only [Option.some.injEq, Prod.mk.injEq] at H
                  obtain ⟨rfl, rfl, rfl, rfl⟩ := H
                  have hnb34 := NB371_372.out
                  have hnc34 := NB372_371.out
                  have hcz35_0 : wc.cell? ⟨gb371, 0, none⟩ = some (.int .i64 a0_0) := (blk_cell BK371.out 0).trans rfl
                  have hcz35_1 : wc.cell? ⟨gb371, 1, none⟩ = some (.int .i64 a0_1) := (blk_cell BK371.out 1).trans rfl
                  have hcz35_2 : wc.cell? ⟨gb371, 2, none⟩ = some (.int .i64 a0_2) := (blk_cell BK371.out 2).trans rfl
                  have hfz35_0 := blk_frozen BK371.out 0
                  have hfz35_1 := blk_frozen BK371.out 1
                  have hfz35_2 := blk_frozen BK371.out 2
                  have hcz36_0 : wc.cell? ⟨gb372, 0, none⟩ = some (.int .i64 0) := (blk_cell BK372.out 0).trans rfl
                  have hcz36_1 : wc.cell? ⟨gb372, 1, none⟩ = some (.int .i64 0) := (blk_cell BK372.out 1).trans rfl
                  have hcz36_2 : wc.cell? ⟨gb372, 2, none⟩ = some (.int .i64 0) := (blk_cell BK372.out 2).trans rfl
                  have hfz36_0 := blk_frozen BK372.out 0
                  have hfz36_1 := blk_frozen BK372.out 1
                  have hfz36_2 := blk_frozen BK372.out 2
                  go_wp2
                  refine bodyPost_ret (results_ct rfl _ _ gb372 36 #[.int .i64 a0_0, .int .i64 a0_1, .int .i64 a0_2] (0, 0) _ rfl (by (with_reducible repeat (first | refine blk_drewN ?_ _ | refine blk_drew ?_ | refine blk_alloc ?_ _)); refine blk_put (cs := #[.int .i64 a0_0, .int .i64 a0_1, .int .i64 0]) ?_ 2 _ rfl; (with_reducible repeat (first | refine blk_drewN ?_ _ | refine blk_drew ?_ | refine blk_alloc ?_ _)); refine blk_put (cs := #[.int .i64 a0_0, .int .i64 0, .int .i64 0]) ?_ 1 _ rfl; (with_reducible repeat (first | refine blk_drewN ?_ _ | refine blk_drew ?_ | refine blk_alloc ?_ _)); refine blk_put (cs := #[.int .i64 0, .int .i64 0, .int .i64 0]) ?_ 0 _ rfl; (with_reducible repeat (first | refine blk_drewN ?_ _ | refine blk_drew ?_ | refine blk_alloc ?_ _)); exact BK372.out) Tryd.underlying36 rfl (by kernel_rfl)) rfl ?_
                  exact ⟨by first | rfl | (simp [errW_none, errW_some] <;> rfl) | (simp [*, errW_none, errW_some] <;> rfl), by repeat (first | (with_reducible first | exact HB.out | apply below_alloc | apply pw_below_drewN | apply below_drew1 | refine below_set ?_ GE371.out | refine below_set ?_ GE372.out) | exact HB.out)⟩
              · rw [if_neg c29] at H
                have c29b0 : (a0_0 == 1) = false := beq_eq_false_iff_ne.mpr c29
                have c29b1 : (a0_0 != 1) = true := bne_iff_ne.mpr c29
                simp only [Option.some.injEq, Prod.mk.injEq] at H
                obtain ⟨rfl, rfl, rfl, rfl⟩ := H
                have hnb37 := NB371_372.out
                have hnc37 := NB372_371.out
                have hcz38_0 : wc.cell? ⟨gb371, 0, none⟩ = some (.int .i64 a0_0) := (blk_cell BK371.out 0).trans rfl
                have hcz38_1 : wc.cell? ⟨gb371, 1, none⟩ = some (.int .i64 a0_1) := (blk_cell BK371.out 1).trans rfl
                have hcz38_2 : wc.cell? ⟨gb371, 2, none⟩ = some (.int .i64 a0_2) := (blk_cell BK371.out 2).trans rfl
                have hfz38_0 := blk_frozen BK371.out 0
                have hfz38_1 := blk_frozen BK371.out 1
                have hfz38_2 := blk_frozen BK371.out 2
                have hcz39_0 : wc.cell? ⟨gb372, 0, none⟩ = some (.int .i64 0) := (blk_cell BK372.out 0).trans rfl
                have hcz39_1 : wc.cell? ⟨gb372, 1, none⟩ = some (.int .i64 0) := (blk_cell BK372.out 1).trans rfl
                have hcz39_2 : wc.cell? ⟨gb372, 2, none⟩ = some (.int .i64 0) := (blk_cell BK372.out 2).trans rfl
                have hfz39_0 := blk_frozen BK372.out 0
                have hfz39_1 := blk_frozen BK372.out 1
                have hfz39_2 := blk_frozen BK372.out 2
                go_wp2
                refine bodyPost_ret (results_ct rfl _ _ gb372 36 #[.int .i64 a0_0, .int .i64 a0_1, .int .i64 a0_2] (0, 0) _ rfl (by (with_reducible repeat (first | refine blk_drewN ?_ _ | refine blk_drew ?_ | refine blk_alloc ?_ _)); refine blk_put (cs := #[.int .i64 a0_0, .int .i64 a0_1, .int .i64 0]) ?_ 2 _ rfl; (with_reducible repeat (first | refine blk_drewN ?_ _ | refine blk_drew ?_ | refine blk_alloc ?_ _)); refine blk_put (cs := #[.int .i64 a0_0, .int .i64 0, .int .i64 0]) ?_ 1 _ rfl; (with_reducible repeat (first | refine blk_drewN ?_ _ | refine blk_drew ?_ | refine blk_alloc ?_ _)); refine blk_put (cs := #[.int .i64 0, .int .i64 0, .int .i64 0]) ?_ 0 _ rfl; (with_reducible repeat (first | refine blk_drewN ?_ _ | refine blk_drew ?_ | refine blk_alloc ?_ _)); exact BK372.out) Tryd.underlying36 rfl (by kernel_rfl)) rfl ?_
                exact ⟨by first | rfl | (simp [errW_none, errW_some] <;> rfl) | (simp [*, errW_none, errW_some] <;> rfl), by repeat (first | (with_reducible first | exact HB.out | apply below_alloc | apply pw_below_drewN | apply below_drew1 | refine below_set ?_ GE371.out | refine below_set ?_ GE372.out) | exact HB.out)⟩
def catchpitref20_Tick.j0 : Nat → Int → Bool → Int → Int → Int → Option (Int × Int × Int)
  | 0, _, _, _, _, _ => none
  | k + 1, x1, x16, x374000, x374001, x374002 => if x16 = true then (some (x374000, x374001, x374002)) else (if x1 ≥ x374001 then (some (2, 0, x374002)) else (some (x374000, wrap64 (x374001 - x1), x374002)))
def catchpitref20_Tick.f (k : Nat) (a0_0 : Int) (a0_1 : Int) (a0_2 : Int) (a1 : Int) : Option (Int × Int × Int) := if a0_0 = 1 then (if a0_1 = 0 then (catchpitref20_Tick.j0 k a1 true a0_0 a0_1 a0_2) else (catchpitref20_Tick.j0 k a1 (decide (a1 ≤ 0)) a0_0 a0_1 a0_2)) else (catchpitref20_Tick.j0 k a1 true a0_0 a0_1 a0_2)
theorem catchpitref20_Tick.mono_l : ∀ k, (∀ y0 y1 y2 y3 y4, LeO (catchpitref20_Tick.j0 k y0 y1 y2 y3 y4) (catchpitref20_Tick.j0 (k + 1) y0 y1 y2 y3 y4))
  | 0 => fun _ _ _ _ _ r h => by simp [catchpitref20_Tick.j0] at h
  | k + 1 => by
    have ih0 := catchpitref20_Tick.mono_l k
    · intro y0 y1 y2 y3 y4
      unfold catchpitref20_Tick.j0
      repeat' first
      | (with_reducible exact ih0 _ _ _ _ _)
      | (with_reducible exact LeO.refl _)
      | (with_reducible exact LeO.none _)
      | (with_reducible refine LeO.ite ?_ ?_)
      | (with_reducible refine LeO.bind ?_ (fun _ => ?_))
      | exact ih0 _ _ _ _ _
      | exact LeO.none _
      | refine LeO.ite ?_ ?_
      | refine LeO.bind ?_ (fun _ => ?_)
theorem catchpitref20_Tick.mono : ∀ a0 a1 a2 a3 k, LeO (catchpitref20_Tick.f k a0 a1 a2 a3) (catchpitref20_Tick.f (k + 1) a0 a1 a2 a3) := by
  intro a0 a1 a2 a3 k
  have ih0 := catchpitref20_Tick.mono_l k
  unfold catchpitref20_Tick.f
  repeat' first
      | (with_reducible exact ih0 _ _ _ _ _)
      | (with_reducible exact LeO.refl _)
      | (with_reducible exact LeO.none _)
      | (with_reducible refine LeO.ite ?_ ?_)
      | (with_reducible refine LeO.bind ?_ (fun _ => ?_))
      | exact ih0 _ _ _ _ _
      | exact LeO.none _
      | refine LeO.ite ?_ ?_
      | refine LeO.bind ?_ (fun _ => ?_)
set_option maxHeartbeats 8000000 in
set_option maxRecDepth 100000 in
theorem catchpitref20_Tick.calls (k : Nat) (a0_0 : Int) (a0_1 : Int) (a0_2 : Int) (a1 : Int) (r1 : Int) (r2 : Int) (r3 : Int) (w : World) (hG : TabOk w) (h : catchpitref20_Tick.f k a0_0 a0_1 a0_2 a1 = some (r1, r2, r3)) :
    Calls Tryd.prog 21 #[.agg #[.int .i64 a0_0, .int .i64 a0_1, .int .i64 a0_2], .int .i64 a1] w fun e w' => e = .returned (.agg #[.int .i64 r1, .int .i64 r2, .int .i64 r3]) ∧ Below w.heap.size w w' := by
  have hu36 := Tryd.underlying36
  have HB := Aside0.mk (Below.refl w.heap.size w)
  have H : (if a0_0 = 1 then (if a0_1 = 0 then (catchpitref20_Tick.j0 k a1 true a0_0 a0_1 a0_2) else (catchpitref20_Tick.j0 k a1 (decide (a1 ≤ 0)) a0_0 a0_1 a0_2)) else (catchpitref20_Tick.j0 k a1 true a0_0 a0_1 a0_2)) = some (r1, r2, r3) := h
  clear h
  have HC3 := Aside0.mk H
  clear H
  go_enter Tryd.func21, Tryd.ntmps21
  go_upto_region 1 with (first | ((with_reducible refine gate_dst (N := 2) rfl ?_); refine box_event ?hg (N := 2) ?hd (cs := #[.int .i64 a0_0, .int .i64 a0_1, .int .i64 a0_2]) (t := 36) ?hr ?_; (case hd => rfl); (case hg => rfl); (case hr => first | (go_simp; done) | (go_simp; rfl)); intro gb373 hg w4 hbox hb; have n0_ := Aside0.mk (below_step (by repeat (first | (with_reducible first | exact HB.out | apply below_alloc | apply pw_below_drewN | apply below_drew1) | exact HB.out)) hb); have n1_ := Aside0.mk (hbox); have n2_ := Aside0.mk ((by rw [hg]; exact (below_size (by repeat (first | (with_reducible first | exact HB.out | apply below_alloc | apply pw_below_drewN | apply below_drew1) | exact HB.out))) : w.heap.size ≤ gb373)); have n3_ := Aside0.mk ((by rw [hg]; exact (below_size (by repeat (first | (with_reducible first | exact HB.out | apply below_alloc | apply pw_below_drewN | apply below_drew1) | exact HB.out))) : w.heap.size ≤ gb373)); clear HB; have HB := n0_; have BK373 := n1_; have GW373 := n2_; have GE373 := n3_; clear n0_ n1_ n2_ n3_; clear hb hbox hg) | ((with_reducible refine gate_dst (N := 4) rfl ?_); refine box_event ?hg (N := 4) ?hd (cs := #[.int .i64 0, .int .i64 0, .int .i64 0]) (t := 36) ?hr ?_; (case hd => rfl); (case hg => rfl); (case hr => first | (go_simp; done) | (go_simp; rfl)); intro gb374 hg w5 hbox hb; have n0_ := Aside0.mk (blk_below (g := gb373) (o := .cells #[.int .i64 a0_0, .int .i64 a0_1, .int .i64 a0_2] 36 (0, 0)) (by (with_reducible repeat (first | refine blk_drewN ?_ _ | refine blk_drew ?_ | refine blk_alloc ?_ _)); exact BK373.out) hb); have n1_ := Aside0.mk (below_step (by repeat (first | (with_reducible first | exact HB.out | apply below_alloc | apply pw_below_drewN | apply below_drew1 | refine below_set ?_ GE373.out) | exact HB.out)) hb); have n2_ := Aside0.mk (hbox); have n3_ := Aside0.mk ((by rw [hg]; exact (below_size (by repeat (first | (with_reducible first | exact HB.out | apply below_alloc | apply pw_below_drewN | apply below_drew1 | refine below_set ?_ GE373.out) | exact HB.out))) : w.heap.size ≤ gb374)); have n4_ := Aside0.mk ((by rw [hg]; exact (below_size (by repeat (first | (with_reducible first | exact HB.out | apply below_alloc | apply pw_below_drewN | apply below_drew1 | refine below_set ?_ GE373.out) | exact HB.out))) : w.heap.size ≤ gb374)); have n5_ := Aside0.mk ((by rw [hg]; exact Nat.ne_of_lt (blk_lt (g := gb373) (o := .cells #[.int .i64 a0_0, .int .i64 a0_1, .int .i64 a0_2] 36 (0, 0)) (by (with_reducible repeat (first | refine blk_drewN ?_ _ | refine blk_drew ?_ | refine blk_alloc ?_ _)); exact BK373.out)) : gb373 ≠ gb374)); have n6_ := Aside0.mk ((by rw [hg]; exact Nat.ne_of_gt (blk_lt (g := gb373) (o := .cells #[.int .i64 a0_0, .int .i64 a0_1, .int .i64 a0_2] 36 (0, 0)) (by (with_reducible repeat (first | refine blk_drewN ?_ _ | refine blk_drew ?_ | refine blk_alloc ?_ _)); exact BK373.out)) : gb374 ≠ gb373)); clear BK373; clear HB; have BK373 := n0_; have HB := n1_; have BK374 := n2_; have GW374 := n3_; have GE374 := n4_; have NB373_374 := n5_; have NB374_373 := n6_; clear n0_ n1_ n2_ n3_ n4_ n5_ n6_; clear hb hbox hg))
  (try simp only [Act.put, List.setIfInBounds_toArray, List.set_cons_zero, List.set_cons_succ])
  go_cut [16] (fun v16 wc => ∃ (kq : Nat) (x16_2 : Bool), v16 = .bool x16_2 ∧ Aside0 (catchpitref20_Tick.j0 kq a1 x16_2 a0_0 a0_1 a0_2 = some (r1, r2, r3)) ∧ Aside0 (kq ≤ k) ∧ Aside0 (wc.heap[gb373]? = some (.cells #[.int .i64 a0_0, .int .i64 a0_1, .int .i64 a0_2] 36 (0, 0))) ∧ Aside0 (wc.heap[gb374]? = some (.cells #[.int .i64 0, .int .i64 0, .int .i64 0] 36 (0, 0))) ∧ Aside0 (Below w.heap.size w wc))
  case first =>
    have H := HC3.out
    clear HC3
    by_cases c6 : a0_0 = 1
    · rw [if_pos c6] at H
      have c6b0 : (a0_0 == 1) = true := beq_iff_eq.mpr c6
      have c6b1 : (a0_0 != 1) = false := bne_eq_false_iff_eq.mpr c6
      clear c6
      (first | rw [c6b0] | (simp only [i64_w, i32_w]; rw [c6b0]) | skip)
      by_cases c7 : a0_1 = 0
      · rw [if_pos c7] at H
        have c7b0 : (a0_1 == 0) = true := beq_iff_eq.mpr c7
        have c7b1 : (a0_1 != 0) = false := bne_eq_false_iff_eq.mpr c7
        clear c7
        have H' := Aside0.mk H
        clear H
        have hnb8 := NB373_374.out
        have hnc8 := NB374_373.out
        have hcz9_0 : w5.cell? ⟨gb373, 0, none⟩ = some (.int .i64 a0_0) := (blk_cell BK373.out 0).trans rfl
        have hcz9_1 : w5.cell? ⟨gb373, 1, none⟩ = some (.int .i64 a0_1) := (blk_cell BK373.out 1).trans rfl
        have hcz9_2 : w5.cell? ⟨gb373, 2, none⟩ = some (.int .i64 a0_2) := (blk_cell BK373.out 2).trans rfl
        have hfz9_0 := blk_frozen BK373.out 0
        have hfz9_1 := blk_frozen BK373.out 1
        have hfz9_2 := blk_frozen BK373.out 2
        go_wp2
        go_meet
        case rel => exact ⟨_, (true), (by first | rfl | (simp; done) | (simp [*]; done)), H', ⟨by first | omega | exact Nat.le_refl _⟩, ⟨by (with_reducible repeat (first | refine blk_drewN ?_ _ | refine blk_drew ?_ | refine blk_alloc ?_ _)); exact BK373.out⟩, ⟨by (with_reducible repeat (first | refine blk_drewN ?_ _ | refine blk_drew ?_ | refine blk_alloc ?_ _)); exact BK374.out⟩, ⟨by repeat (first | (with_reducible first | exact HB.out | apply below_alloc | apply pw_below_drewN | apply below_drew1 | refine below_set ?_ GE373.out | refine below_set ?_ GE374.out) | exact HB.out)⟩⟩
      · rw [if_neg c7] at H
        have c7b0 : (a0_1 == 0) = false := beq_eq_false_iff_ne.mpr c7
        have c7b1 : (a0_1 != 0) = true := bne_iff_ne.mpr c7
        have H' := Aside0.mk H
        clear H
        have hnb10 := NB373_374.out
        have hnc10 := NB374_373.out
        have hcz11_0 : w5.cell? ⟨gb373, 0, none⟩ = some (.int .i64 a0_0) := (blk_cell BK373.out 0).trans rfl
        have hcz11_1 : w5.cell? ⟨gb373, 1, none⟩ = some (.int .i64 a0_1) := (blk_cell BK373.out 1).trans rfl
        have hcz11_2 : w5.cell? ⟨gb373, 2, none⟩ = some (.int .i64 a0_2) := (blk_cell BK373.out 2).trans rfl
        have hfz11_0 := blk_frozen BK373.out 0
        have hfz11_1 := blk_frozen BK373.out 1
        have hfz11_2 := blk_frozen BK373.out 2
        go_wp2
        go_meet
        case rel => exact ⟨_, (decide (a1 ≤ 0)), (by first | rfl | (simp; done) | (simp [*]; done)), H', ⟨by first | omega | exact Nat.le_refl _⟩, ⟨by (with_reducible repeat (first | refine blk_drewN ?_ _ | refine blk_drew ?_ | refine blk_alloc ?_ _)); exact BK373.out⟩, ⟨by (with_reducible repeat (first | refine blk_drewN ?_ _ | refine blk_drew ?_ | refine blk_alloc ?_ _)); exact BK374.out⟩, ⟨by repeat (first | (with_reducible first | exact HB.out | apply below_alloc | apply pw_below_drewN | apply below_drew1 | refine below_set ?_ GE373.out | refine below_set ?_ GE374.out) | exact HB.out)⟩⟩
    · rw [if_neg c6] at H
      have c6b0 : (a0_0 == 1) = false := beq_eq_false_iff_ne.mpr c6
      have c6b1 : (a0_0 != 1) = true := bne_iff_ne.mpr c6
      (first | rw [c6b0] | (simp only [i64_w, i32_w]; rw [c6b0]) | skip)
      have H' := Aside0.mk H
      clear H
      have hnb12 := NB373_374.out
      have hnc12 := NB374_373.out
      have hcz13_0 : w5.cell? ⟨gb373, 0, none⟩ = some (.int .i64 a0_0) := (blk_cell BK373.out 0).trans rfl
      have hcz13_1 : w5.cell? ⟨gb373, 1, none⟩ = some (.int .i64 a0_1) := (blk_cell BK373.out 1).trans rfl
      have hcz13_2 : w5.cell? ⟨gb373, 2, none⟩ = some (.int .i64 a0_2) := (blk_cell BK373.out 2).trans rfl
      have hfz13_0 := blk_frozen BK373.out 0
      have hfz13_1 := blk_frozen BK373.out 1
      have hfz13_2 := blk_frozen BK373.out 2
      go_wp2
      go_meet
      case rel => exact ⟨_, (true), (by first | rfl | (simp; done) | (simp [*]; done)), H', ⟨by first | omega | exact Nat.le_refl _⟩, ⟨by (with_reducible repeat (first | refine blk_drewN ?_ _ | refine blk_drew ?_ | refine blk_alloc ?_ _)); exact BK373.out⟩, ⟨by (with_reducible repeat (first | refine blk_drewN ?_ _ | refine blk_drew ?_ | refine blk_alloc ?_ _)); exact BK374.out⟩, ⟨by repeat (first | (with_reducible first | exact HB.out | apply below_alloc | apply pw_below_drewN | apply below_drew1 | refine below_set ?_ GE373.out | refine below_set ?_ GE374.out) | exact HB.out)⟩⟩
  case rest =>
    clear HC3
    try clear c1
    try clear c2
    try clear p2
    try clear c6
    try clear c6b0
    try clear c6b1
    try clear c7
    try clear c7b0
    try clear c7b1
    try clear c8
    try clear c10
    try clear c12
    try clear hcz11_0
    try clear hcz11_1
    try clear hcz11_2
    try clear hcz13_0
    try clear hcz13_1
    try clear hcz13_2
    try clear hcz9_0
    try clear hcz9_1
    try clear hcz9_2
    try clear hfz11_0
    try clear hfz11_1
    try clear hfz11_2
    try clear hfz13_0
    try clear hfz13_1
    try clear hfz13_2
    try clear hfz9_0
    try clear hfz9_1
    try clear hfz9_2
    obtain ⟨kq, x16_2, rfl, HA, HJ2, BK373, BK374, HB⟩ := hcut
    cases kq with
    | zero => exact absurd HA.out (by simp [catchpitref20_Tick.j0])
    | succ kj2 =>
      have H := HA.out
      clear HA
      simp only [catchpitref20_Tick.j0] at H
      by_cases c14 : x16_2 = true
      · subst c14
        have H1 : (some (a0_0, a0_1, a0_2)) = some (r1, r2, r3) := by rw [if_pos rfl] at H; exact H
        clear H
        have H := H1
        clear H1
        simp only [Option.some.injEq, Prod.mk.injEq] at H
        obtain ⟨rfl, rfl, rfl⟩ := H
        have hnb15 := NB373_374.out
        have hnc15 := NB374_373.out
        have hcz16_0 : wc.cell? ⟨gb373, 0, none⟩ = some (.int .i64 a0_0) := (blk_cell BK373.out 0).trans rfl
        have hcz16_1 : wc.cell? ⟨gb373, 1, none⟩ = some (.int .i64 a0_1) := (blk_cell BK373.out 1).trans rfl
        have hcz16_2 : wc.cell? ⟨gb373, 2, none⟩ = some (.int .i64 a0_2) := (blk_cell BK373.out 2).trans rfl
        have hfz16_0 := blk_frozen BK373.out 0
        have hfz16_1 := blk_frozen BK373.out 1
        have hfz16_2 := blk_frozen BK373.out 2
        have hcz17_0 : wc.cell? ⟨gb374, 0, none⟩ = some (.int .i64 0) := (blk_cell BK374.out 0).trans rfl
        have hcz17_1 : wc.cell? ⟨gb374, 1, none⟩ = some (.int .i64 0) := (blk_cell BK374.out 1).trans rfl
        have hcz17_2 : wc.cell? ⟨gb374, 2, none⟩ = some (.int .i64 0) := (blk_cell BK374.out 2).trans rfl
        have hfz17_0 := blk_frozen BK374.out 0
        have hfz17_1 := blk_frozen BK374.out 1
        have hfz17_2 := blk_frozen BK374.out 2
        go_wp2
        refine bodyPost_ret (results_cell_row rfl _ _ gb374 36 #[.int .i64 a0_0, .int .i64 a0_1, .int .i64 a0_2] (0, 0) _ rfl (by (with_reducible repeat (first | refine blk_drewN ?_ _ | refine blk_drew ?_ | refine blk_alloc ?_ _)); refine blk_put (cs := #[.int .i64 a0_0, .int .i64 a0_1, .int .i64 0]) ?_ 2 _ rfl; (with_reducible repeat (first | refine blk_drewN ?_ _ | refine blk_drew ?_ | refine blk_alloc ?_ _)); refine blk_put (cs := #[.int .i64 a0_0, .int .i64 0, .int .i64 0]) ?_ 1 _ rfl; (with_reducible repeat (first | refine blk_drewN ?_ _ | refine blk_drew ?_ | refine blk_alloc ?_ _)); refine blk_put (cs := #[.int .i64 0, .int .i64 0, .int .i64 0]) ?_ 0 _ rfl; (with_reducible repeat (first | refine blk_drewN ?_ _ | refine blk_drew ?_ | refine blk_alloc ?_ _)); exact BK374.out) Tryd.underlying36 rfl (by kernel_rfl)) rfl ?_
        exact ⟨by first | rfl | (simp [errW_none, errW_some] <;> rfl) | (simp [*, errW_none, errW_some] <;> rfl), by repeat (first | (with_reducible first | exact HB.out | apply below_alloc | apply pw_below_drewN | apply below_drew1 | refine below_set ?_ GE373.out | refine below_set ?_ GE374.out) | exact HB.out)⟩
      · replace c14 := Bool.eq_false_iff.mpr c14
        subst c14
        have H1 : (if a1 ≥ a0_1 then (some (2, 0, a0_2)) else (some (a0_0, wrap64 (a0_1 - a1), a0_2))) = some (r1, r2, r3) := by rw [if_neg (show ¬ (false = true) by decide)] at H; exact H
        clear H
        have H := H1
        clear H1
        by_cases c18 : a1 ≥ a0_1
        · rw [if_pos c18] at H
          have c18b0 : decide (a0_1 ≤ a1) = true := decide_eq_true c18
          clear c18
          simp only [Option.some.injEq, Prod.mk.injEq] at H
          obtain ⟨rfl, rfl, rfl⟩ := H
          have hnb19 := NB373_374.out
          have hnc19 := NB374_373.out
          have hcz20_0 : wc.cell? ⟨gb373, 0, none⟩ = some (.int .i64 a0_0) := (blk_cell BK373.out 0).trans rfl
          have hcz20_1 : wc.cell? ⟨gb373, 1, none⟩ = some (.int .i64 a0_1) := (blk_cell BK373.out 1).trans rfl
          have hcz20_2 : wc.cell? ⟨gb373, 2, none⟩ = some (.int .i64 a0_2) := (blk_cell BK373.out 2).trans rfl
          have hfz20_0 := blk_frozen BK373.out 0
          have hfz20_1 := blk_frozen BK373.out 1
          have hfz20_2 := blk_frozen BK373.out 2
          have hcz21_0 : wc.cell? ⟨gb374, 0, none⟩ = some (.int .i64 0) := (blk_cell BK374.out 0).trans rfl
          have hcz21_1 : wc.cell? ⟨gb374, 1, none⟩ = some (.int .i64 0) := (blk_cell BK374.out 1).trans rfl
          have hcz21_2 : wc.cell? ⟨gb374, 2, none⟩ = some (.int .i64 0) := (blk_cell BK374.out 2).trans rfl
          have hfz21_0 := blk_frozen BK374.out 0
          have hfz21_1 := blk_frozen BK374.out 1
          have hfz21_2 := blk_frozen BK374.out 2
          go_wp2
          refine bodyPost_ret (results_cell_row rfl _ _ gb374 36 #[.int .i64 2, .int .i64 0, .int .i64 a0_2] (0, 0) _ rfl (by (with_reducible repeat (first | refine blk_drewN ?_ _ | refine blk_drew ?_ | refine blk_alloc ?_ _)); refine blk_put (cs := #[.int .i64 2, .int .i64 0, .int .i64 0]) ?_ 2 _ rfl; (with_reducible repeat (first | refine blk_drewN ?_ _ | refine blk_drew ?_ | refine blk_alloc ?_ _)); refine blk_put (cs := #[.int .i64 2, .int .i64 0, .int .i64 0]) ?_ 1 _ rfl; (with_reducible repeat (first | refine blk_drewN ?_ _ | refine blk_drew ?_ | refine blk_alloc ?_ _)); refine blk_put (cs := #[.int .i64 0, .int .i64 0, .int .i64 0]) ?_ 0 _ rfl; (with_reducible repeat (first | refine blk_drewN ?_ _ | refine blk_drew ?_ | refine blk_alloc ?_ _)); refine blk_far ?_ NB374_373.out _; (with_reducible repeat (first | refine blk_drewN ?_ _ | refine blk_drew ?_ | refine blk_alloc ?_ _)); refine blk_far ?_ NB374_373.out _; (with_reducible repeat (first | refine blk_drewN ?_ _ | refine blk_drew ?_ | refine blk_alloc ?_ _)); exact BK374.out) Tryd.underlying36 rfl (by kernel_rfl)) rfl ?_
          exact ⟨by first | rfl | (simp [errW_none, errW_some] <;> rfl) | (simp [*, errW_none, errW_some] <;> rfl), by repeat (first | (with_reducible first | exact HB.out | apply below_alloc | apply pw_below_drewN | apply below_drew1 | refine below_set ?_ GE373.out | refine below_set ?_ GE374.out) | exact HB.out)⟩
        · rw [if_neg c18] at H
          have c18b0 : decide (a0_1 ≤ a1) = false := decide_eq_false c18
          clear c18
          simp only [Option.some.injEq, Prod.mk.injEq] at H
          obtain ⟨rfl, rfl, rfl⟩ := H
          have hnb22 := NB373_374.out
          have hnc22 := NB374_373.out
          have hcz23_0 : wc.cell? ⟨gb373, 0, none⟩ = some (.int .i64 a0_0) := (blk_cell BK373.out 0).trans rfl
          have hcz23_1 : wc.cell? ⟨gb373, 1, none⟩ = some (.int .i64 a0_1) := (blk_cell BK373.out 1).trans rfl
          have hcz23_2 : wc.cell? ⟨gb373, 2, none⟩ = some (.int .i64 a0_2) := (blk_cell BK373.out 2).trans rfl
          have hfz23_0 := blk_frozen BK373.out 0
          have hfz23_1 := blk_frozen BK373.out 1
          have hfz23_2 := blk_frozen BK373.out 2
          have hcz24_0 : wc.cell? ⟨gb374, 0, none⟩ = some (.int .i64 0) := (blk_cell BK374.out 0).trans rfl
          have hcz24_1 : wc.cell? ⟨gb374, 1, none⟩ = some (.int .i64 0) := (blk_cell BK374.out 1).trans rfl
          have hcz24_2 : wc.cell? ⟨gb374, 2, none⟩ = some (.int .i64 0) := (blk_cell BK374.out 2).trans rfl
          have hfz24_0 := blk_frozen BK374.out 0
          have hfz24_1 := blk_frozen BK374.out 1
          have hfz24_2 := blk_frozen BK374.out 2
          go_wp2
          refine bodyPost_ret (results_cell_row rfl _ _ gb374 36 #[.int .i64 a0_0, .int .i64 (wrap64 (a0_1 - a1)), .int .i64 a0_2] (0, 0) _ rfl (by (with_reducible repeat (first | refine blk_drewN ?_ _ | refine blk_drew ?_ | refine blk_alloc ?_ _)); refine blk_put (cs := #[.int .i64 a0_0, .int .i64 (wrap64 (a0_1 - a1)), .int .i64 0]) ?_ 2 _ rfl; (with_reducible repeat (first | refine blk_drewN ?_ _ | refine blk_drew ?_ | refine blk_alloc ?_ _)); refine blk_put (cs := #[.int .i64 a0_0, .int .i64 0, .int .i64 0]) ?_ 1 _ rfl; (with_reducible repeat (first | refine blk_drewN ?_ _ | refine blk_drew ?_ | refine blk_alloc ?_ _)); refine blk_put (cs := #[.int .i64 0, .int .i64 0, .int .i64 0]) ?_ 0 _ rfl; (with_reducible repeat (first | refine blk_drewN ?_ _ | refine blk_drew ?_ | refine blk_alloc ?_ _)); refine blk_far ?_ NB374_373.out _; (with_reducible repeat (first | refine blk_drewN ?_ _ | refine blk_drew ?_ | refine blk_alloc ?_ _)); exact BK374.out) Tryd.underlying36 rfl (by kernel_rfl)) rfl ?_
          exact ⟨by first | rfl | (simp [errW_none, errW_some] <;> rfl) | (simp [*, errW_none, errW_some] <;> rfl), by repeat (first | (with_reducible first | exact HB.out | apply below_alloc | apply pw_below_drewN | apply below_drew1 | refine below_set ?_ GE373.out | refine below_set ?_ GE374.out) | exact HB.out)⟩
end Go.Proofs.YtoanmbhenmlboaaDoor.Pr
end
section
namespace Go.Proofs.YtoanmbhenmlboaaDoor.Pr
open Go.RowKit Go.Proofs.YtoanmbhenmlboaaDoorH Go.Proofs.YtoanmbhenmlboaaDoorW.PrintWords Go.Proofs.YtoanmbhenmlboaaDoorW.PrintLast Go.Proofs.YtoanmbhenmlboaaDoorW.PrintMore
attribute [local go_sem] max2_int min2_int max_two min_two max_three min_three max_four min_four   -- for this text's walks alone
set_option linter.unusedVariables false
set_option linter.unusedSimpArgs false
def catchpitref20_Out.j0 : Nat → Int → Bool → Int → Int → Int → Option (Int × Int × Int × ByteArray)
  | 0, _, _, _, _, _ => none
  | k + 1, x1, x13, x376000, x376001, x376002 => if x13 = true then (some (x376000, x376001, x376002, (⟨#[]⟩ : ByteArray))) else (if x1 > (wrap64 (25 - x376002)) then (if 0 ≤ x376002 then (if x376002 ≤ (wrap64 (x376002 + (wrap64 (25 - x376002)))) then (if (wrap64 (x376002 + (wrap64 (25 - x376002)))) ≤ 25 then (some (x376000, x376001, wrap64 (x376002 + (wrap64 (25 - x376002))), (⟨#[72, 84, 84, 80, 47, 49, 46, 49, 32, 49, 48, 48, 32, 67, 111, 110, 116, 105, 110, 117, 101, 13, 10, 13, 10]⟩ : ByteArray).extract (x376002 : Int).toNat ((wrap64 (x376002 + (wrap64 (25 - x376002)))) : Int).toNat)) else (none)) else (none)) else (none)) else (if 0 ≤ x376002 then (if x376002 ≤ (wrap64 (x376002 + x1)) then (if (wrap64 (x376002 + x1)) ≤ 25 then (some (x376000, x376001, wrap64 (x376002 + x1), (⟨#[72, 84, 84, 80, 47, 49, 46, 49, 32, 49, 48, 48, 32, 67, 111, 110, 116, 105, 110, 117, 101, 13, 10, 13, 10]⟩ : ByteArray).extract (x376002 : Int).toNat ((wrap64 (x376002 + x1)) : Int).toNat)) else (none)) else (none)) else (none)))
def catchpitref20_Out.f (k : Nat) (a0_0 : Int) (a0_1 : Int) (a0_2 : Int) (a1 : Int) : Option (Int × Int × Int × ByteArray) := if a0_0 = 2 then (catchpitref20_Out.j0 k a1 (decide (a1 ≤ 0)) a0_0 a0_1 a0_2) else (catchpitref20_Out.j0 k a1 true a0_0 a0_1 a0_2)
theorem catchpitref20_Out.mono_l : ∀ k, (∀ y0 y1 y2 y3 y4, LeO (catchpitref20_Out.j0 k y0 y1 y2 y3 y4) (catchpitref20_Out.j0 (k + 1) y0 y1 y2 y3 y4))
  | 0 => fun _ _ _ _ _ r h => by simp [catchpitref20_Out.j0] at h
  | k + 1 => by
    have ih0 := catchpitref20_Out.mono_l k
    · intro y0 y1 y2 y3 y4
      unfold catchpitref20_Out.j0
      repeat' first
      | (with_reducible exact ih0 _ _ _ _ _)
      | (with_reducible exact LeO.refl _)
      | (with_reducible exact LeO.none _)
      | (with_reducible refine LeO.ite ?_ ?_)
      | (with_reducible refine LeO.bind ?_ (fun _ => ?_))
      | exact ih0 _ _ _ _ _
      | exact LeO.none _
      | refine LeO.ite ?_ ?_
      | refine LeO.bind ?_ (fun _ => ?_)
theorem catchpitref20_Out.mono : ∀ a0 a1 a2 a3 k, LeO (catchpitref20_Out.f k a0 a1 a2 a3) (catchpitref20_Out.f (k + 1) a0 a1 a2 a3) := by
  intro a0 a1 a2 a3 k
  have ih0 := catchpitref20_Out.mono_l k
  unfold catchpitref20_Out.f
  repeat' first
      | (with_reducible exact ih0 _ _ _ _ _)
      | (with_reducible exact LeO.refl _)
      | (with_reducible exact LeO.none _)
      | (with_reducible refine LeO.ite ?_ ?_)
      | (with_reducible refine LeO.bind ?_ (fun _ => ?_))
      | exact ih0 _ _ _ _ _
      | exact LeO.none _
      | refine LeO.ite ?_ ?_
      | refine LeO.bind ?_ (fun _ => ?_)
set_option maxHeartbeats 8000000 in
set_option maxRecDepth 100000 in
theorem catchpitref20_Out.calls (k : Nat) (a0_0 : Int) (a0_1 : Int) (a0_2 : Int) (a1 : Int) (r1 : Int) (r2 : Int) (r3 : Int) (r4 : ByteArray) (w : World) (hG : TabOk w) (h : catchpitref20_Out.f k a0_0 a0_1 a0_2 a1 = some (r1, r2, r3, r4)) :
    Calls Tryd.prog 22 #[.agg #[.int .i64 a0_0, .int .i64 a0_1, .int .i64 a0_2], .int .i64 a1] w fun e w' => e = .returned (.tuple #[.agg #[.int .i64 r1, .int .i64 r2, .int .i64 r3], .string r4]) ∧ Below w.heap.size w w' := by
  have hu36 := Tryd.underlying36
  have HB := Aside0.mk (Below.refl w.heap.size w)
  have H : (if a0_0 = 2 then (catchpitref20_Out.j0 k a1 (decide (a1 ≤ 0)) a0_0 a0_1 a0_2) else (catchpitref20_Out.j0 k a1 true a0_0 a0_1 a0_2)) = some (r1, r2, r3, r4) := h
  clear h
  have HC3 := Aside0.mk H
  clear H
  go_enter Tryd.func22, Tryd.ntmps22
  go_upto_region 1 with (first | ((with_reducible refine gate_dst (N := 2) rfl ?_); refine box_event ?hg (N := 2) ?hd (cs := #[.int .i64 a0_0, .int .i64 a0_1, .int .i64 a0_2]) (t := 36) ?hr ?_; (case hd => rfl); (case hg => rfl); (case hr => first | (go_simp; done) | (go_simp; rfl)); intro gb375 hg w4 hbox hb; have n0_ := Aside0.mk (below_step (by repeat (first | (with_reducible first | exact HB.out | apply below_alloc | apply pw_below_drewN | apply below_drew1) | exact HB.out)) hb); have n1_ := Aside0.mk (hbox); have n2_ := Aside0.mk ((by rw [hg]; exact (below_size (by repeat (first | (with_reducible first | exact HB.out | apply below_alloc | apply pw_below_drewN | apply below_drew1) | exact HB.out))) : w.heap.size ≤ gb375)); have n3_ := Aside0.mk ((by rw [hg]; exact (below_size (by repeat (first | (with_reducible first | exact HB.out | apply below_alloc | apply pw_below_drewN | apply below_drew1) | exact HB.out))) : w.heap.size ≤ gb375)); clear HB; have HB := n0_; have BK375 := n1_; have GW375 := n2_; have GE375 := n3_; clear n0_ n1_ n2_ n3_; clear hb hbox hg) | ((with_reducible refine gate_dst (N := 4) rfl ?_); refine box_event ?hg (N := 4) ?hd (cs := #[.int .i64 0, .int .i64 0, .int .i64 0]) (t := 36) ?hr ?_; (case hd => rfl); (case hg => rfl); (case hr => first | (go_simp; done) | (go_simp; rfl)); intro gb376 hg w5 hbox hb; have n0_ := Aside0.mk (blk_below (g := gb375) (o := .cells #[.int .i64 a0_0, .int .i64 a0_1, .int .i64 a0_2] 36 (0, 0)) (by (with_reducible repeat (first | refine blk_drewN ?_ _ | refine blk_drew ?_ | refine blk_alloc ?_ _)); exact BK375.out) hb); have n1_ := Aside0.mk (below_step (by repeat (first | (with_reducible first | exact HB.out | apply below_alloc | apply pw_below_drewN | apply below_drew1 | refine below_set ?_ GE375.out) | exact HB.out)) hb); have n2_ := Aside0.mk (hbox); have n3_ := Aside0.mk ((by rw [hg]; exact (below_size (by repeat (first | (with_reducible first | exact HB.out | apply below_alloc | apply pw_below_drewN | apply below_drew1 | refine below_set ?_ GE375.out) | exact HB.out))) : w.heap.size ≤ gb376)); have n4_ := Aside0.mk ((by rw [hg]; exact (below_size (by repeat (first | (with_reducible first | exact HB.out | apply below_alloc | apply pw_below_drewN | apply below_drew1 | refine below_set ?_ GE375.out) | exact HB.out))) : w.heap.size ≤ gb376)); have n5_ := Aside0.mk ((by rw [hg]; exact Nat.ne_of_lt (blk_lt (g := gb375) (o := .cells #[.int .i64 a0_0, .int .i64 a0_1, .int .i64 a0_2] 36 (0, 0)) (by (with_reducible repeat (first | refine blk_drewN ?_ _ | refine blk_drew ?_ | refine blk_alloc ?_ _)); exact BK375.out)) : gb375 ≠ gb376)); have n6_ := Aside0.mk ((by rw [hg]; exact Nat.ne_of_gt (blk_lt (g := gb375) (o := .cells #[.int .i64 a0_0, .int .i64 a0_1, .int .i64 a0_2] 36 (0, 0)) (by (with_reducible repeat (first | refine blk_drewN ?_ _ | refine blk_drew ?_ | refine blk_alloc ?_ _)); exact BK375.out)) : gb376 ≠ gb375)); clear BK375; clear HB; have BK375 := n0_; have HB := n1_; have BK376 := n2_; have GW376 := n3_; have GE376 := n4_; have NB375_376 := n5_; have NB376_375 := n6_; clear n0_ n1_ n2_ n3_ n4_ n5_ n6_; clear hb hbox hg))
  (try simp only [Act.put, List.setIfInBounds_toArray, List.set_cons_zero, List.set_cons_succ])
  go_cut [13] (fun v13 wc => ∃ (kq : Nat) (x13_2 : Bool), v13 = .bool x13_2 ∧ Aside0 (catchpitref20_Out.j0 kq a1 x13_2 a0_0 a0_1 a0_2 = some (r1, r2, r3, r4)) ∧ Aside0 (kq ≤ k) ∧ Aside0 (wc.heap[gb375]? = some (.cells #[.int .i64 a0_0, .int .i64 a0_1, .int .i64 a0_2] 36 (0, 0))) ∧ Aside0 (wc.heap[gb376]? = some (.cells #[.int .i64 0, .int .i64 0, .int .i64 0] 36 (0, 0))) ∧ Aside0 (Below w.heap.size w wc))
  case first =>
    have H := HC3.out
    clear HC3
    by_cases c6 : a0_0 = 2
    · rw [if_pos c6] at H
      have c6b0 : (a0_0 == 2) = true := beq_iff_eq.mpr c6
      have c6b1 : (a0_0 != 2) = false := bne_eq_false_iff_eq.mpr c6
      clear c6
      (first | rw [c6b0] | (simp only [i64_w, i32_w]; rw [c6b0]) | skip)
      have H' := Aside0.mk H
      clear H
      have hnb7 := NB375_376.out
      have hnc7 := NB376_375.out
      have hcz8_0 : w5.cell? ⟨gb375, 0, none⟩ = some (.int .i64 a0_0) := (blk_cell BK375.out 0).trans rfl
      have hcz8_1 : w5.cell? ⟨gb375, 1, none⟩ = some (.int .i64 a0_1) := (blk_cell BK375.out 1).trans rfl
      have hcz8_2 : w5.cell? ⟨gb375, 2, none⟩ = some (.int .i64 a0_2) := (blk_cell BK375.out 2).trans rfl
      have hfz8_0 := blk_frozen BK375.out 0
      have hfz8_1 := blk_frozen BK375.out 1
      have hfz8_2 := blk_frozen BK375.out 2
      go_wp2
      go_meet
      case rel => exact ⟨_, (decide (a1 ≤ 0)), (by first | rfl | (simp; done) | (simp [*]; done)), H', ⟨by first | omega | exact Nat.le_refl _⟩, ⟨by (with_reducible repeat (first | refine blk_drewN ?_ _ | refine blk_drew ?_ | refine blk_alloc ?_ _)); exact BK375.out⟩, ⟨by (with_reducible repeat (first | refine blk_drewN ?_ _ | refine blk_drew ?_ | refine blk_alloc ?_ _)); exact BK376.out⟩, ⟨by repeat (first | (with_reducible first | exact HB.out | apply below_alloc | apply pw_below_drewN | apply below_drew1 | refine below_set ?_ GE375.out | refine below_set ?_ GE376.out) | exact HB.out)⟩⟩
    · rw [if_neg c6] at H
      have c6b0 : (a0_0 == 2) = false := beq_eq_false_iff_ne.mpr c6
      have c6b1 : (a0_0 != 2) = true := bne_iff_ne.mpr c6
      (first | rw [c6b0] | (simp only [i64_w, i32_w]; rw [c6b0]) | skip)
      have H' := Aside0.mk H
      clear H
      have hnb9 := NB375_376.out
      have hnc9 := NB376_375.out
      have hcz10_0 : w5.cell? ⟨gb375, 0, none⟩ = some (.int .i64 a0_0) := (blk_cell BK375.out 0).trans rfl
      have hcz10_1 : w5.cell? ⟨gb375, 1, none⟩ = some (.int .i64 a0_1) := (blk_cell BK375.out 1).trans rfl
      have hcz10_2 : w5.cell? ⟨gb375, 2, none⟩ = some (.int .i64 a0_2) := (blk_cell BK375.out 2).trans rfl
      have hfz10_0 := blk_frozen BK375.out 0
      have hfz10_1 := blk_frozen BK375.out 1
      have hfz10_2 := blk_frozen BK375.out 2
      go_wp2
      go_meet
      case rel => exact ⟨_, (true), (by first | rfl | (simp; done) | (simp [*]; done)), H', ⟨by first | omega | exact Nat.le_refl _⟩, ⟨by (with_reducible repeat (first | refine blk_drewN ?_ _ | refine blk_drew ?_ | refine blk_alloc ?_ _)); exact BK375.out⟩, ⟨by (with_reducible repeat (first | refine blk_drewN ?_ _ | refine blk_drew ?_ | refine blk_alloc ?_ _)); exact BK376.out⟩, ⟨by repeat (first | (with_reducible first | exact HB.out | apply below_alloc | apply pw_below_drewN | apply below_drew1 | refine below_set ?_ GE375.out | refine below_set ?_ GE376.out) | exact HB.out)⟩⟩
  case rest =>
    clear HC3
    try clear c2
    try clear p2
    try clear c6
    try clear c6b0
    try clear c6b1
    try clear c7
    try clear c9
    try clear hcz10_0
    try clear hcz10_1
    try clear hcz10_2
    try clear hcz8_0
    try clear hcz8_1
    try clear hcz8_2
    try clear hfz10_0
    try clear hfz10_1
    try clear hfz10_2
    try clear hfz8_0
    try clear hfz8_1
    try clear hfz8_2
    obtain ⟨kq, x13_2, rfl, HA, HJ2, BK375, BK376, HB⟩ := hcut
    cases kq with
    | zero => exact absurd HA.out (by simp [catchpitref20_Out.j0])
    | succ kj2 =>
      have H := HA.out
      clear HA
      simp only [catchpitref20_Out.j0] at H
      by_cases c11 : x13_2 = true
      · subst c11
        have H1 : (some (a0_0, a0_1, a0_2, (⟨#[]⟩ : ByteArray))) = some (r1, r2, r3, r4) := by rw [if_pos rfl] at H; exact H
        clear H
        have H := H1
        clear H1
        simp only [Option.some.injEq, Prod.mk.injEq] at H
        obtain ⟨rfl, rfl, rfl, rfl⟩ := H
        have hnb12 := NB375_376.out
        have hnc12 := NB376_375.out
        have hcz13_0 : wc.cell? ⟨gb375, 0, none⟩ = some (.int .i64 a0_0) := (blk_cell BK375.out 0).trans rfl
        have hcz13_1 : wc.cell? ⟨gb375, 1, none⟩ = some (.int .i64 a0_1) := (blk_cell BK375.out 1).trans rfl
        have hcz13_2 : wc.cell? ⟨gb375, 2, none⟩ = some (.int .i64 a0_2) := (blk_cell BK375.out 2).trans rfl
        have hfz13_0 := blk_frozen BK375.out 0
        have hfz13_1 := blk_frozen BK375.out 1
        have hfz13_2 := blk_frozen BK375.out 2
        have hcz14_0 : wc.cell? ⟨gb376, 0, none⟩ = some (.int .i64 0) := (blk_cell BK376.out 0).trans rfl
        have hcz14_1 : wc.cell? ⟨gb376, 1, none⟩ = some (.int .i64 0) := (blk_cell BK376.out 1).trans rfl
        have hcz14_2 : wc.cell? ⟨gb376, 2, none⟩ = some (.int .i64 0) := (blk_cell BK376.out 2).trans rfl
        have hfz14_0 := blk_frozen BK376.out 0
        have hfz14_1 := blk_frozen BK376.out 1
        have hfz14_2 := blk_frozen BK376.out 2
        go_wp2
        refine bodyPost_ret (results_ct rfl _ _ gb376 36 #[.int .i64 a0_0, .int .i64 a0_1, .int .i64 a0_2] (0, 0) _ rfl (by (with_reducible repeat (first | refine blk_drewN ?_ _ | refine blk_drew ?_ | refine blk_alloc ?_ _)); refine blk_put (cs := #[.int .i64 a0_0, .int .i64 a0_1, .int .i64 0]) ?_ 2 _ rfl; (with_reducible repeat (first | refine blk_drewN ?_ _ | refine blk_drew ?_ | refine blk_alloc ?_ _)); refine blk_put (cs := #[.int .i64 a0_0, .int .i64 0, .int .i64 0]) ?_ 1 _ rfl; (with_reducible repeat (first | refine blk_drewN ?_ _ | refine blk_drew ?_ | refine blk_alloc ?_ _)); refine blk_put (cs := #[.int .i64 0, .int .i64 0, .int .i64 0]) ?_ 0 _ rfl; (with_reducible repeat (first | refine blk_drewN ?_ _ | refine blk_drew ?_ | refine blk_alloc ?_ _)); exact BK376.out) Tryd.underlying36 rfl (by kernel_rfl)) rfl ?_
        exact ⟨by first | rfl | (simp [errW_none, errW_some] <;> rfl) | (simp [*, errW_none, errW_some] <;> rfl), by repeat (first | (with_reducible first | exact HB.out | apply below_alloc | apply pw_below_drewN | apply below_drew1 | refine below_set ?_ GE375.out | refine below_set ?_ GE376.out) | exact HB.out)⟩
      · replace c11 := Bool.eq_false_iff.mpr c11
        subst c11
        have H1 : (if a1 > (wrap64 (25 - a0_2)) then (if 0 ≤ a0_2 then (if a0_2 ≤ (wrap64 (a0_2 + (wrap64 (25 - a0_2)))) then (if (wrap64 (a0_2 + (wrap64 (25 - a0_2)))) ≤ 25 then (some (a0_0, a0_1, wrap64 (a0_2 + (wrap64 (25 - a0_2))), (⟨#[72, 84, 84, 80, 47, 49, 46, 49, 32, 49, 48, 48, 32, 67, 111, 110, 116, 105, 110, 117, 101, 13, 10, 13, 10]⟩ : ByteArray).extract (a0_2 : Int).toNat ((wrap64 (a0_2 + (wrap64 (25 - a0_2)))) : Int).toNat)) else (none)) else (none)) else (none)) else (if 0 ≤ a0_2 then (if a0_2 ≤ (wrap64 (a0_2 + a1)) then (if (wrap64 (a0_2 + a1)) ≤ 25 then (some (a0_0, a0_1, wrap64 (a0_2 + a1), (⟨#[72, 84, 84, 80, 47, 49, 46, 49, 32, 49, 48, 48, 32, 67, 111, 110, 116, 105, 110, 117, 101, 13, 10, 13, 10]⟩ : ByteArray).extract (a0_2 : Int).toNat ((wrap64 (a0_2 + a1)) : Int).toNat)) else (none)) else (none)) else (none))) = some (r1, r2, r3, r4) := by rw [if_neg (show ¬ (false = true) by decide)] at H; exact H
        clear H
        have H := H1
        clear H1
        by_cases c15 : a1 > (wrap64 (25 - a0_2))
        · rw [if_pos c15] at H
          have c15b0 : decide ((wrap64 (25 - a0_2)) < a1) = true := decide_eq_true c15
          clear c15
          by_cases c16 : 0 ≤ a0_2
          · rw [if_pos c16] at H
            have c16b0 := eq_true c16
            have c16b1 : decide (0 ≤ a0_2) = true := decide_eq_true c16
            clear c16
            by_cases c17 : a0_2 ≤ (wrap64 (a0_2 + (wrap64 (25 - a0_2))))
            · rw [if_pos c17] at H
              have c17b0 := eq_true c17
              have c17b1 : decide (a0_2 ≤ (wrap64 (a0_2 + (wrap64 (25 - a0_2))))) = true := decide_eq_true c17
              by_cases c18 : (wrap64 (a0_2 + (wrap64 (25 - a0_2)))) ≤ 25
              · rw [if_pos c18] at H
                have c18b0 := eq_true c18
                have c18b1 : decide ((wrap64 (a0_2 + (wrap64 (25 - a0_2)))) ≤ 25) = true := decide_eq_true c18
                simp only [Option.some.injEq, Prod.mk.injEq] at H
                obtain ⟨rfl, rfl, rfl, rfl⟩ := H
                have hnb19 := NB375_376.out
                have hnc19 := NB376_375.out
                have hcz20_0 : wc.cell? ⟨gb375, 0, none⟩ = some (.int .i64 a0_0) := (blk_cell BK375.out 0).trans rfl
                have hcz20_1 : wc.cell? ⟨gb375, 1, none⟩ = some (.int .i64 a0_1) := (blk_cell BK375.out 1).trans rfl
                have hcz20_2 : wc.cell? ⟨gb375, 2, none⟩ = some (.int .i64 a0_2) := (blk_cell BK375.out 2).trans rfl
                have hfz20_0 := blk_frozen BK375.out 0
                have hfz20_1 := blk_frozen BK375.out 1
                have hfz20_2 := blk_frozen BK375.out 2
                have hcz21_0 : wc.cell? ⟨gb376, 0, none⟩ = some (.int .i64 0) := (blk_cell BK376.out 0).trans rfl
                have hcz21_1 : wc.cell? ⟨gb376, 1, none⟩ = some (.int .i64 0) := (blk_cell BK376.out 1).trans rfl
                have hcz21_2 : wc.cell? ⟨gb376, 2, none⟩ = some (.int .i64 0) := (blk_cell BK376.out 2).trans rfl
                have hfz21_0 := blk_frozen BK376.out 0
                have hfz21_1 := blk_frozen BK376.out 1
                have hfz21_2 := blk_frozen BK376.out 2
                go_wp2
                refine bodyPost_ret (results_ct rfl _ _ gb376 36 #[.int .i64 a0_0, .int .i64 a0_1, .int .i64 (wrap64 (a0_2 + (wrap64 (25 - a0_2))))] (0, 0) _ rfl (by (with_reducible repeat (first | refine blk_drewN ?_ _ | refine blk_drew ?_ | refine blk_alloc ?_ _)); refine blk_put (cs := #[.int .i64 a0_0, .int .i64 a0_1, .int .i64 0]) ?_ 2 _ rfl; (with_reducible repeat (first | refine blk_drewN ?_ _ | refine blk_drew ?_ | refine blk_alloc ?_ _)); refine blk_put (cs := #[.int .i64 a0_0, .int .i64 0, .int .i64 0]) ?_ 1 _ rfl; (with_reducible repeat (first | refine blk_drewN ?_ _ | refine blk_drew ?_ | refine blk_alloc ?_ _)); refine blk_put (cs := #[.int .i64 0, .int .i64 0, .int .i64 0]) ?_ 0 _ rfl; (with_reducible repeat (first | refine blk_drewN ?_ _ | refine blk_drew ?_ | refine blk_alloc ?_ _)); refine blk_far ?_ NB376_375.out _; (with_reducible repeat (first | refine blk_drewN ?_ _ | refine blk_drew ?_ | refine blk_alloc ?_ _)); exact BK376.out) Tryd.underlying36 rfl (by kernel_rfl)) rfl ?_
                exact ⟨by first | rfl | (simp [errW_none, errW_some] <;> rfl) | (simp [*, errW_none, errW_some] <;> rfl), by repeat (first | (with_reducible first | exact HB.out | apply below_alloc | apply pw_below_drewN | apply below_drew1 | refine below_set ?_ GE375.out | refine below_set ?_ GE376.out) | exact HB.out)⟩
              · rw [if_neg c18] at H
                exact absurd H (by simp)
            · rw [if_neg c17] at H
              exact absurd H (by simp)
          · rw [if_neg c16] at H
            exact absurd H (by simp)
        · rw [if_neg c15] at H
          have c15b0 : decide ((wrap64 (25 - a0_2)) < a1) = false := decide_eq_false c15
          clear c15
          by_cases c22 : 0 ≤ a0_2
          · rw [if_pos c22] at H
            have c22b0 := eq_true c22
            have c22b1 : decide (0 ≤ a0_2) = true := decide_eq_true c22
            clear c22
            by_cases c23 : a0_2 ≤ (wrap64 (a0_2 + a1))
            · rw [if_pos c23] at H
              have c23b0 := eq_true c23
              have c23b1 : decide (a0_2 ≤ (wrap64 (a0_2 + a1))) = true := decide_eq_true c23
              by_cases c24 : (wrap64 (a0_2 + a1)) ≤ 25
              · rw [if_pos c24] at H
                have c24b0 := eq_true c24
                have c24b1 : decide ((wrap64 (a0_2 + a1)) ≤ 25) = true := decide_eq_true c24
                simp only [Option.some.injEq, Prod.mk.injEq] at H
                obtain ⟨rfl, rfl, rfl, rfl⟩ := H
                have hnb25 := NB375_376.out
                have hnc25 := NB376_375.out
                have hcz26_0 : wc.cell? ⟨gb375, 0, none⟩ = some (.int .i64 a0_0) := (blk_cell BK375.out 0).trans rfl
                have hcz26_1 : wc.cell? ⟨gb375, 1, none⟩ = some (.int .i64 a0_1) := (blk_cell BK375.out 1).trans rfl
                have hcz26_2 : wc.cell? ⟨gb375, 2, none⟩ = some (.int .i64 a0_2) := (blk_cell BK375.out 2).trans rfl
                have hfz26_0 := blk_frozen BK375.out 0
                have hfz26_1 := blk_frozen BK375.out 1
                have hfz26_2 := blk_frozen BK375.out 2
                have hcz27_0 : wc.cell? ⟨gb376, 0, none⟩ = some (.int .i64 0) := (blk_cell BK376.out 0).trans rfl
                have hcz27_1 : wc.cell? ⟨gb376, 1, none⟩ = some (.int .i64 0) := (blk_cell BK376.out 1).trans rfl
                have hcz27_2 : wc.cell? ⟨gb376, 2, none⟩ = some (.int .i64 0) := (blk_cell BK376.out 2).trans rfl
                have hfz27_0 := blk_frozen BK376.out 0
                have hfz27_1 := blk_frozen BK376.out 1
                have hfz27_2 := blk_frozen BK376.out 2
                go_wp2
                refine bodyPost_ret (results_ct rfl _ _ gb376 36 #[.int .i64 a0_0, .int .i64 a0_1, .int .i64 (wrap64 (a0_2 + a1))] (0, 0) _ rfl (by (with_reducible repeat (first | refine blk_drewN ?_ _ | refine blk_drew ?_ | refine blk_alloc ?_ _)); refine blk_put (cs := #[.int .i64 a0_0, .int .i64 a0_1, .int .i64 0]) ?_ 2 _ rfl; (with_reducible repeat (first | refine blk_drewN ?_ _ | refine blk_drew ?_ | refine blk_alloc ?_ _)); refine blk_put (cs := #[.int .i64 a0_0, .int .i64 0, .int .i64 0]) ?_ 1 _ rfl; (with_reducible repeat (first | refine blk_drewN ?_ _ | refine blk_drew ?_ | refine blk_alloc ?_ _)); refine blk_put (cs := #[.int .i64 0, .int .i64 0, .int .i64 0]) ?_ 0 _ rfl; (with_reducible repeat (first | refine blk_drewN ?_ _ | refine blk_drew ?_ | refine blk_alloc ?_ _)); refine blk_far ?_ NB376_375.out _; (with_reducible repeat (first | refine blk_drewN ?_ _ | refine blk_drew ?_ | refine blk_alloc ?_ _)); exact BK376.out) Tryd.underlying36 rfl (by kernel_rfl)) rfl ?_
                exact ⟨by first | rfl | (simp [errW_none, errW_some] <;> rfl) | (simp [*, errW_none, errW_some] <;> rfl), by repeat (first | (with_reducible first | exact HB.out | apply below_alloc | apply pw_below_drewN | apply below_drew1 | refine below_set ?_ GE375.out | refine below_set ?_ GE376.out) | exact HB.out)⟩
              · rw [if_neg c24] at H
                exact absurd H (by simp)
            · rw [if_neg c23] at H
              exact absurd H (by simp)
          · rw [if_neg c22] at H
            exact absurd H (by simp)
def expect_Handshake_State.f (s0_0 : Int) (s0_1 : Int) (s0_2 : ByteArray) : Option (Int × Int × Int × ByteArray) := some (s0_0, s0_0, s0_1, s0_2)
def catchpitref20_Reads.f (a0_0 : Int) (a0_1 : Int) (a0_2 : Int) : Option (Bool) := if a0_0 = 0 then (some true) else (if a0_0 = 2 then (some (a0_2 == 25)) else (some false))
set_option maxHeartbeats 8000000 in
set_option maxRecDepth 100000 in
theorem catchpitref20_Reads.calls (a0_0 : Int) (a0_1 : Int) (a0_2 : Int) (r : Bool) (w : World) (hG : TabOk w) (h : catchpitref20_Reads.f a0_0 a0_1 a0_2 = some r) :
    Calls Tryd.prog 26 #[.agg #[.int .i64 a0_0, .int .i64 a0_1, .int .i64 a0_2]] w fun e w' => e = .returned (.bool r) ∧ Below w.heap.size w w' := by
  have hu36 := Tryd.underlying36
  have HB := Aside0.mk (Below.refl w.heap.size w)
  have H : (if a0_0 = 0 then (some true) else (if a0_0 = 2 then (some (a0_2 == 25)) else (some false))) = some r := h
  clear h
  by_cases c2 : a0_0 = 0
  · rw [if_pos c2] at H
    have c2b0 : (a0_0 == 0) = true := beq_iff_eq.mpr c2
    have c2b1 : (a0_0 != 0) = false := bne_eq_false_iff_eq.mpr c2
    clear c2
    obtain rfl := Option.some.inj H
    go_enter Tryd.func26, Tryd.ntmps26
    go_wp2_with (first | ((with_reducible refine gate_dst (N := 1) rfl ?_); refine box_event ?hg (N := 1) ?hd (cs := #[.int .i64 a0_0, .int .i64 a0_1, .int .i64 a0_2]) (t := 36) ?hr ?_; (case hd => rfl); (case hg => rfl); (case hr => first | (go_simp; done) | (go_simp; rfl)); intro gb377 hg w3 hbox hb; have n0_ := Aside0.mk (below_step (by repeat (first | (with_reducible first | exact HB.out | apply below_alloc | apply pw_below_drewN | apply below_drew1) | exact HB.out)) hb); have n1_ := Aside0.mk (hbox); have n2_ := Aside0.mk ((by rw [hg]; exact (below_size (by repeat (first | (with_reducible first | exact HB.out | apply below_alloc | apply pw_below_drewN | apply below_drew1) | exact HB.out))) : w.heap.size ≤ gb377)); have n3_ := Aside0.mk ((by rw [hg]; exact (below_size (by repeat (first | (with_reducible first | exact HB.out | apply below_alloc | apply pw_below_drewN | apply below_drew1) | exact HB.out))) : w.heap.size ≤ gb377)); clear HB; have HB := n0_; have BK377 := n1_; have GW377 := n2_; have GE377 := n3_; clear n0_ n1_ n2_ n3_; clear hb hbox hg; have hcz4_0 : w3.cell? ⟨gb377, 0, none⟩ = some (.int .i64 a0_0) := (blk_cell BK377.out 0).trans rfl; have hcz4_1 : w3.cell? ⟨gb377, 1, none⟩ = some (.int .i64 a0_1) := (blk_cell BK377.out 1).trans rfl; have hcz4_2 : w3.cell? ⟨gb377, 2, none⟩ = some (.int .i64 a0_2) := (blk_cell BK377.out 2).trans rfl; have hfz4_0 := blk_frozen BK377.out 0; have hfz4_1 := blk_frozen BK377.out 1; have hfz4_2 := blk_frozen BK377.out 2))
    go_ret
    exact ⟨by first | rfl | (simp [errW_none, errW_some] <;> rfl) | (simp [*, errW_none, errW_some] <;> rfl), by repeat (first | (with_reducible first | exact HB.out | apply below_alloc | apply pw_below_drewN | apply below_drew1 | refine below_set ?_ GE377.out) | exact HB.out)⟩
  · rw [if_neg c2] at H
    have c2b0 : (a0_0 == 0) = false := beq_eq_false_iff_ne.mpr c2
    have c2b1 : (a0_0 != 0) = true := bne_iff_ne.mpr c2
    by_cases c5 : a0_0 = 2
    · rw [if_pos c5] at H
      have c5b0 : (a0_0 == 2) = true := beq_iff_eq.mpr c5
      have c5b1 : (a0_0 != 2) = false := bne_eq_false_iff_eq.mpr c5
      clear c5
      obtain rfl := Option.some.inj H
      go_enter Tryd.func26, Tryd.ntmps26
      go_wp2_with (first | ((with_reducible refine gate_dst (N := 1) rfl ?_); refine box_event ?hg (N := 1) ?hd (cs := #[.int .i64 a0_0, .int .i64 a0_1, .int .i64 a0_2]) (t := 36) ?hr ?_; (case hd => rfl); (case hg => rfl); (case hr => first | (go_simp; done) | (go_simp; rfl)); intro gb377 hg w6 hbox hb; have n0_ := Aside0.mk (below_step (by repeat (first | (with_reducible first | exact HB.out | apply below_alloc | apply pw_below_drewN | apply below_drew1) | exact HB.out)) hb); have n1_ := Aside0.mk (hbox); have n2_ := Aside0.mk ((by rw [hg]; exact (below_size (by repeat (first | (with_reducible first | exact HB.out | apply below_alloc | apply pw_below_drewN | apply below_drew1) | exact HB.out))) : w.heap.size ≤ gb377)); have n3_ := Aside0.mk ((by rw [hg]; exact (below_size (by repeat (first | (with_reducible first | exact HB.out | apply below_alloc | apply pw_below_drewN | apply below_drew1) | exact HB.out))) : w.heap.size ≤ gb377)); clear HB; have HB := n0_; have BK377 := n1_; have GW377 := n2_; have GE377 := n3_; clear n0_ n1_ n2_ n3_; clear hb hbox hg; have hcz7_0 : w6.cell? ⟨gb377, 0, none⟩ = some (.int .i64 a0_0) := (blk_cell BK377.out 0).trans rfl; have hcz7_1 : w6.cell? ⟨gb377, 1, none⟩ = some (.int .i64 a0_1) := (blk_cell BK377.out 1).trans rfl; have hcz7_2 : w6.cell? ⟨gb377, 2, none⟩ = some (.int .i64 a0_2) := (blk_cell BK377.out 2).trans rfl; have hfz7_0 := blk_frozen BK377.out 0; have hfz7_1 := blk_frozen BK377.out 1; have hfz7_2 := blk_frozen BK377.out 2))
      go_ret
      exact ⟨by first | rfl | (simp [errW_none, errW_some] <;> rfl) | (simp [*, errW_none, errW_some] <;> rfl), by repeat (first | (with_reducible first | exact HB.out | apply below_alloc | apply pw_below_drewN | apply below_drew1 | refine below_set ?_ GE377.out) | exact HB.out)⟩
    · rw [if_neg c5] at H
      have c5b0 : (a0_0 == 2) = false := beq_eq_false_iff_ne.mpr c5
      have c5b1 : (a0_0 != 2) = true := bne_iff_ne.mpr c5
      obtain rfl := Option.some.inj H
      go_enter Tryd.func26, Tryd.ntmps26
      go_wp2_with (first | ((with_reducible refine gate_dst (N := 1) rfl ?_); refine box_event ?hg (N := 1) ?hd (cs := #[.int .i64 a0_0, .int .i64 a0_1, .int .i64 a0_2]) (t := 36) ?hr ?_; (case hd => rfl); (case hg => rfl); (case hr => first | (go_simp; done) | (go_simp; rfl)); intro gb377 hg w8 hbox hb; have n0_ := Aside0.mk (below_step (by repeat (first | (with_reducible first | exact HB.out | apply below_alloc | apply pw_below_drewN | apply below_drew1) | exact HB.out)) hb); have n1_ := Aside0.mk (hbox); have n2_ := Aside0.mk ((by rw [hg]; exact (below_size (by repeat (first | (with_reducible first | exact HB.out | apply below_alloc | apply pw_below_drewN | apply below_drew1) | exact HB.out))) : w.heap.size ≤ gb377)); have n3_ := Aside0.mk ((by rw [hg]; exact (below_size (by repeat (first | (with_reducible first | exact HB.out | apply below_alloc | apply pw_below_drewN | apply below_drew1) | exact HB.out))) : w.heap.size ≤ gb377)); clear HB; have HB := n0_; have BK377 := n1_; have GW377 := n2_; have GE377 := n3_; clear n0_ n1_ n2_ n3_; clear hb hbox hg; have hcz9_0 : w8.cell? ⟨gb377, 0, none⟩ = some (.int .i64 a0_0) := (blk_cell BK377.out 0).trans rfl; have hcz9_1 : w8.cell? ⟨gb377, 1, none⟩ = some (.int .i64 a0_1) := (blk_cell BK377.out 1).trans rfl; have hcz9_2 : w8.cell? ⟨gb377, 2, none⟩ = some (.int .i64 a0_2) := (blk_cell BK377.out 2).trans rfl; have hfz9_0 := blk_frozen BK377.out 0; have hfz9_1 := blk_frozen BK377.out 1; have hfz9_2 := blk_frozen BK377.out 2))
      go_ret
      exact ⟨by first | rfl | (simp [errW_none, errW_some] <;> rfl) | (simp [*, errW_none, errW_some] <;> rfl), by repeat (first | (with_reducible first | exact HB.out | apply below_alloc | apply pw_below_drewN | apply below_drew1 | refine below_set ?_ GE377.out) | exact HB.out)⟩
def expect_Handshake_Interims.f (s0_0 : Int) (s0_1 : Int) (s0_2 : ByteArray) : Option (Int × Int × Int × ByteArray) := if s0_0 = 2 then (some (wrap64 (25 - (s0_2.size : Int)), s0_0, s0_1, s0_2)) else (some (0, s0_0, s0_1, s0_2))
end Go.Proofs.YtoanmbhenmlboaaDoor.Pr
end
section
namespace Go.Proofs.YtoanmbhenmlboaaDoorH
open Go.RowKit Go.Proofs.YtoanmbhenmlboaaDoorW.PrintWords Go.Proofs.YtoanmbhenmlboaaDoorW.PrintLast Go.Proofs.YtoanmbhenmlboaaDoorW.PrintMore Go.Proofs.YtoanmbhenmlboaaDoor.Pr
def refO (st x : Int) : Int := if x < 100 ∨ 999 < x ∨ st ≠ 1 then st else if x = 100 then 2 else if x < 200 then 1 else 3
theorem originR_fst (st : Int) (lf : ByteArray) (x : Int) : (originR st lf x).1 = refO st x := by
  unfold originR refO
  repeat' split
  all_goals rfl
theorem refOrigin_eq (st pa out x : Int) : catchpitref20_Origin.f 2 st pa out x = some (refO st x, pa, out, if x < 100 ∨ 999 < x then 1 else 0) := by
  have e : catchpitref20_Origin.f 2 st pa out x = catchpitref20_Origin.j0 2 x (decide (x < 100 ∨ 999 < x)) st pa out := by
    unfold catchpitref20_Origin.f
    by_cases h : x < 100
    · rw [if_pos h, decide_eq_true (.inl h)]
    · rw [if_neg h]
      congr 1
      rw [decide_eq_decide]
      omega
  rw [e]
  unfold refO
  by_cases hx : x < 100 ∨ 999 < x
  · rw [decide_eq_true hx, catchpitref20_Origin.j0, if_pos rfl, if_pos hx, if_pos (by omega)]
  · rw [decide_eq_false hx, catchpitref20_Origin.j0, if_neg (by decide), if_neg hx]
    by_cases h1 : st = 1
    · subst h1
      rw [if_pos rfl, catchpitref20_Origin.j1, if_neg (show ¬ (x < 100 ∨ 999 < x ∨ (1 : Int) ≠ 1) by omega)]
      by_cases h2 : x = 100
      · subst h2
        rfl
      · rw [if_neg (by rw [beq_iff_eq]; exact h2), if_pos rfl, if_neg h2]
        by_cases h3 : x < 200
        · rw [if_neg (by omega), if_pos h3]
        · rw [if_pos (by omega), if_neg h3]
    · rw [if_neg h1, catchpitref20_Origin.j1, if_neg (by decide), if_neg h1, if_pos (by omega)]
def refT (st pa n : Int) : Int × Int := if st = 1 ∧ pa ≠ 0 ∧ 0 < n then (if pa ≤ n then (2, 0) else (1, pa - n)) else (st, pa)
theorem refTick_eq (st pa out n : Int) (hp : 0 ≤ pa ∧ pa ≤ 1073741824) : catchpitref20_Tick.f 1 st pa out n = some ((refT st pa n).1, (refT st pa n).2, out) := by
  unfold catchpitref20_Tick.f refT
  by_cases h1 : st = 1
  · subst h1
    rw [if_pos rfl]
    by_cases h2 : pa = 0
    · rw [if_pos h2, catchpitref20_Tick.j0, if_pos rfl, if_neg (fun h => h.2.1 h2)]
    · rw [if_neg h2, catchpitref20_Tick.j0]
      by_cases h3 : n ≤ 0
      · rw [if_pos (decide_eq_true h3), if_neg (by omega)]
      · rw [if_neg (by rw [decide_eq_false h3]; decide), if_pos (⟨rfl, h2, by omega⟩ : (1 : Int) = 1 ∧ pa ≠ 0 ∧ 0 < n)]
        by_cases h4 : pa ≤ n
        · rw [if_pos h4, if_pos h4]
        · rw [if_neg h4, if_neg h4, show wrap64 (pa - n) = pa - n by unfold wrap64; omega]
  · rw [if_neg h1, catchpitref20_Tick.j0, if_pos rfl, if_neg (fun h => h1 h.1)]
theorem tickR_ref (st pa n : Int) (lf : ByteArray) (hp : 0 ≤ pa) : (tickR st pa lf n).1 = (refT st pa n).1 ∧ (tickR st pa lf n).2.1 = (refT st pa n).2 := by
  unfold tickR refT
  by_cases h1 : st = 1 ∧ pa ≠ 0
  · rw [if_pos h1]
    by_cases h2 : 0 < n
    · rw [if_pos (⟨h1.1, h1.2, h2⟩ : st = 1 ∧ pa ≠ 0 ∧ 0 < n)]
      by_cases h3 : pa ≤ n
      · rw [if_pos h3, if_pos h3]
        exact ⟨rfl, rfl⟩
      · rw [if_neg h3, if_neg h3]
        refine ⟨rfl, ?_⟩
        show pa - max n 0 = pa - n
        omega
    · rw [if_neg (show ¬ (st = 1 ∧ pa ≠ 0 ∧ 0 < n) from fun h => h2 h.2.2), if_neg (by omega)]
      refine ⟨h1.1.symm, ?_⟩
      show pa - max n 0 = pa
      omega
  · rw [if_neg h1, if_neg (fun h => h1 ⟨h.1, h.2.1⟩)]
    exact ⟨rfl, rfl⟩
def refN (st : Int) (out : Nat) (n : Int) : Nat := if st = 2 then (min (max n 0) (25 - (out : Int))).toNat else 0
theorem extract_nothing (s : ByteArray) (i : Nat) : s.extract i i = ⟨#[]⟩ := by
  apply ByteArray.ext
  apply Array.eq_empty_of_size_eq_zero
  show (s.extract i i).size = 0
  rw [ByteArray.size_extract]
  omega
theorem refOut_eq (st pa n : Int) (out : Nat) (ho : out ≤ 25) : catchpitref20_Out.f 1 st pa (out : Int) n = some (st, pa, ((out + refN st out n : Nat) : Int), interimS.extract out (out + refN st out n)) := by
  unfold catchpitref20_Out.f refN
  by_cases h1 : st = 2
  · subst h1
    rw [if_pos rfl, if_pos rfl, catchpitref20_Out.j0]
    have hw1 : wrap64 (25 - (out : Int)) = 25 - (out : Int) := by unfold wrap64; omega
    by_cases h2 : n ≤ 0
    · have e : (min (max n 0) (25 - (out : Int))).toNat = 0 := by omega
      rw [if_pos (decide_eq_true h2), e, Nat.add_zero, extract_nothing]
    · rw [if_neg (by rw [decide_eq_false h2]; decide), hw1]
      by_cases h3 : n > 25 - (out : Int)
      · have hw2 : wrap64 ((out : Int) + (25 - (out : Int))) = 25 := by unfold wrap64; omega
        have e : out + (min (max n 0) (25 - (out : Int))).toNat = 25 := by omega
        rw [if_pos h3, hw2, if_pos (by omega), if_pos (by omega), if_pos (by decide), e]
        rfl
      · have hw2 : wrap64 ((out : Int) + n) = (out : Int) + n := by unfold wrap64; omega
        have e : out + (min (max n 0) (25 - (out : Int))).toNat = ((out : Int) + n).toNat := by omega
        have e2 : (((out : Int) + n).toNat : Int) = (out : Int) + n := by omega
        rw [if_neg h3, hw2, if_pos (by omega), if_pos (by omega), if_pos (by omega), e, e2]
        rfl
  · rw [if_neg h1, if_neg h1, catchpitref20_Out.j0, if_pos rfl, Nat.add_zero, extract_nothing]
theorem refReads_eq (st pa out : Int) : catchpitref20_Reads.f st pa out = some (decide (st = 0) || decide (st = 2) && decide (out = 25)) := by
  unfold catchpitref20_Reads.f
  by_cases h0 : st = 0
  · rw [if_pos h0, decide_eq_true h0]
    rfl
  · rw [if_neg h0, decide_eq_false h0]
    by_cases h2 : st = 2
    · rw [if_pos h2, decide_eq_true h2, Bool.false_or, Bool.true_and]
      congr 1
    · rw [if_neg h2, decide_eq_false h2]
      rfl
structure Rel (st pa : Int) (lf : ByteArray) (out : Nat) : Prop where
  p0 : 0 ≤ pa
  p1 : pa ≤ 1073741824
  o : out ≤ 25
  yes : st = 2 → lf = interimS.extract out 25
  no : st ≠ 2 → out = 0 ∧ lf = ⟨#[]⟩
theorem interimS_size : interimS.size = 25 := rfl
theorem Rel.size2 {st pa : Int} {lf : ByteArray} {out : Nat} (h : Rel st pa lf out) (e : st = 2) : lf.size = 25 - out := by
  rw [h.yes e, ByteArray.size_extract, interimS_size]
  omega
theorem Rel.size {st pa : Int} {lf : ByteArray} {out : Nat} (h : Rel st pa lf out) : lf.size ≤ 25 := by
  by_cases e : st = 2
  · rw [h.size2 e]; omega
  · rw [(h.no e).2]; decide
theorem Rel.reads {st pa : Int} {lf : ByteArray} {out : Nat} (h : Rel st pa lf out) : (decide (st = 0) || decide (st = 2) && decide (lf.size = 0)) = (decide (st = 0) || decide (st = 2) && decide ((out : Int) = 25)) := by
  by_cases e : st = 2
  · have := h.size2 e
    have := h.o
    congr 2
    rw [decide_eq_decide]
    omega
  · rw [decide_eq_false e]
    rfl
theorem Rel.interims {st pa : Int} {lf : ByteArray} {out : Nat} (h : Rel st pa lf out) : (if st = 2 then 25 - (lf.size : Int) else 0) = (out : Int) := by
  by_cases e : st = 2
  · have := h.size2 e
    have := h.o
    rw [if_pos e]
    omega
  · rw [if_neg e, (h.no e).1]
    rfl
theorem full_interim : interimS = interimS.extract 0 25 := by decide +kernel
theorem Rel.origin {st pa : Int} {lf : ByteArray} {out : Nat} (h : Rel st pa lf out) (x : Int) : Rel (refO st x) pa (originR st lf x).2 out := by
  unfold refO originR
  by_cases h1 : x < 100 ∨ 999 < x ∨ st ≠ 1
  · rw [if_pos h1, if_pos h1]
    exact h
  · have e1 : st = 1 := by omega
    have hn := h.no (by omega)
    rw [if_neg h1, if_neg h1]
    by_cases h2 : x = 100
    · rw [if_pos h2, if_pos h2]
      exact ⟨h.p0, h.p1, h.o, fun _ => by rw [hn.1]; exact full_interim, fun h => absurd rfl h⟩
    · rw [if_neg h2, if_neg h2]
      by_cases h3 : x < 200
      · rw [if_pos h3, if_pos h3]
        exact ⟨h.p0, h.p1, h.o, fun h => absurd h (by decide), fun _ => hn⟩
      · rw [if_neg h3, if_neg h3]
        exact ⟨h.p0, h.p1, h.o, fun h => absurd h (by decide), fun _ => hn⟩
theorem Rel.tick {st pa : Int} {lf : ByteArray} {out : Nat} (h : Rel st pa lf out) (n : Int) : Rel (refT st pa n).1 (refT st pa n).2 (tickR st pa lf n).2.2 out := by
  have hp0 := h.p0
  have hp1 := h.p1
  by_cases h1 : st = 1 ∧ pa ≠ 0
  · have hn := h.no (by omega)
    unfold tickR refT
    rw [if_pos h1]
    by_cases h2 : 0 < n
    · rw [if_pos (⟨h1.1, h1.2, h2⟩ : st = 1 ∧ pa ≠ 0 ∧ 0 < n)]
      by_cases h3 : pa ≤ n
      · rw [if_pos h3, if_pos h3]
        exact ⟨by decide, by decide, h.o, fun _ => by rw [hn.1]; exact full_interim, fun h => absurd rfl h⟩
      · rw [if_neg h3, if_neg h3]
        exact ⟨show 0 ≤ pa - n by omega, show pa - n ≤ 1073741824 by omega, h.o, fun h => absurd (show (1 : Int) = 2 from h) (by decide), fun _ => hn⟩
    · rw [if_neg (show ¬ (st = 1 ∧ pa ≠ 0 ∧ 0 < n) from fun h => h2 h.2.2), if_neg (by omega)]
      exact ⟨h.p0, h.p1, h.o, fun h => by omega, fun _ => hn⟩
  · unfold tickR refT
    rw [if_neg h1, if_neg (fun h => h1 ⟨h.1, h.2.1⟩)]
    exact h
theorem Rel.outN {st pa : Int} {lf : ByteArray} {out : Nat} (h : Rel st pa lf out) (n : Int) : outN lf n = refN st out n := by
  have ho := h.o
  unfold Go.Proofs.YtoanmbhenmlboaaDoorH.outN refN
  by_cases e : st = 2
  · rw [if_pos e, h.size2 e]
    congr 2
    omega
  · rw [if_neg e, (h.no e).2]
    show (min (max n 0) (0 : Int)).toNat = 0
    omega
theorem Rel.outS {st pa : Int} {lf : ByteArray} {out : Nat} (h : Rel st pa lf out) (n : Int) : outS lf n = interimS.extract out (out + refN st out n) := by
  unfold Go.Proofs.YtoanmbhenmlboaaDoorH.outS
  rw [h.outN n]
  by_cases e : st = 2
  · have ho := h.o
    have hle : refN st out n ≤ 25 - out := by unfold refN; rw [if_pos e]; omega
    rw [h.yes e, ByteArray.extract_extract]
    congr 1
    omega
  · rw [(h.no e).2, (h.no e).1, show refN st 0 n = 0 from if_neg e, extract_nothing, extract_nothing]
theorem Rel.outR {st pa : Int} {lf : ByteArray} {out : Nat} (h : Rel st pa lf out) (n : Int) : Rel st pa (outR lf n) (out + refN st out n) := by
  have ho := h.o
  by_cases e : st = 2
  · have hle : refN st out n ≤ 25 - out := by unfold refN; rw [if_pos e]; omega
    refine ⟨h.p0, h.p1, by omega, fun _ => ?_, fun h => absurd e h⟩
    unfold Go.Proofs.YtoanmbhenmlboaaDoorH.outR
    rw [h.outN n, h.size2 e, h.yes e, ByteArray.extract_extract]
    congr 1
    omega
  · rw [show refN st out n = 0 from if_neg e]
    refine ⟨h.p0, h.p1, by omega, fun h => absurd h e, fun _ => ⟨(h.no e).1, ?_⟩⟩
    rw [(h.no e).2]
    apply ByteArray.ext
    apply Array.eq_empty_of_size_eq_zero
    show (Go.Proofs.YtoanmbhenmlboaaDoorH.outR ⟨#[]⟩ n).size = 0
    rw [outR_size, show (⟨#[]⟩ : ByteArray).size = 0 from rfl]
    omega
end Go.Proofs.YtoanmbhenmlboaaDoorH
end
