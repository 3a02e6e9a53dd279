import Derived.Test.YtmmbpbgcobmifaaDoorZBodyScansP3
import Derived.Test.YtmmbpbgcobmifaaDoorZBodyScansP7
import Derived.Test.YtmmbpbgcobmifaaDoorZBodyScansP1
import Derived.Test.YtmmbpbgcobmifaaDoorZBodyScansP5
import Derived.Test.YtmmbpbgcobmifaaDoorZBodyScansP6
namespace Go.Proofs.YtmmbpbgcobmifaaDoorH
end Go.Proofs.YtmmbpbgcobmifaaDoorH
namespace Go.Proofs.YtmmbpbgcobmifaaDoorW.PrintWords
end Go.Proofs.YtmmbpbgcobmifaaDoorW.PrintWords
namespace Go.Proofs.YtmmbpbgcobmifaaDoorW.PrintLast
end Go.Proofs.YtmmbpbgcobmifaaDoorW.PrintLast
namespace Go.Proofs.YtmmbpbgcobmifaaDoorW.PrintMore
end Go.Proofs.YtmmbpbgcobmifaaDoorW.PrintMore
namespace Go.Proofs.YtmmbpbgcobmifaaDoor.Pr
end Go.Proofs.YtmmbpbgcobmifaaDoor.Pr
namespace Go.Proofs.YtmmbpbgcobmifaaDoorM
end Go.Proofs.YtmmbpbgcobmifaaDoorM
section
namespace Go.Proofs.YtmmbpbgcobmifaaDoor.Pr
open Go.RowKit Go.Proofs.YtmmbpbgcobmifaaDoorH Go.Proofs.YtmmbpbgcobmifaaDoorW.PrintWords Go.Proofs.YtmmbpbgcobmifaaDoorW.PrintLast Go.Proofs.YtmmbpbgcobmifaaDoorW.PrintMore
attribute [local go_sem] max2_int min2_int max_two min_two max_three min_three max_four min_four   -- for this text's walks alone
set_option linter.unusedVariables false
set_option linter.unusedSimpArgs false
def catchpitlaw08_same.f (k : Nat) (l0_0 : List Int) (l0_1 : List (S53)) (a0_2 : Int) (l1_0 : List Int) (l1_1 : List (S53)) (a1_2 : Int) : Option (Bool) := (catchpitref08_Same.f k l0_0 l1_0).bind fun t158 => (if t158 = true then ((catchpitref05_Fields.f k l0_1 l1_1).bind fun t159 => (if t159 = true then (some (a0_2 == a1_2)) else (some false))) else (some false))
theorem catchpitlaw08_same.mono : ∀ a0 a1 a2 a3 a4 a5 k, LeO (catchpitlaw08_same.f k a0 a1 a2 a3 a4 a5) (catchpitlaw08_same.f (k + 1) a0 a1 a2 a3 a4 a5) := by
  intro a0 a1 a2 a3 a4 a5 k
  unfold catchpitlaw08_same.f
  repeat' first
      | (with_reducible exact catchpitref05_Fields.mono _ _ _)
      | (with_reducible exact catchpitref08_Same.mono _ _ _)
      | (with_reducible exact LeO.refl _)
      | (with_reducible exact LeO.none _)
      | (with_reducible refine LeO.ite ?_ ?_)
      | (with_reducible refine LeO.bind ?_ (fun _ => ?_))
      | exact catchpitref05_Fields.mono _ _ _
      | exact catchpitref08_Same.mono _ _ _
      | exact LeO.none _
      | refine LeO.ite ?_ ?_
      | refine LeO.bind ?_ (fun _ => ?_)
set_option maxHeartbeats 8000000 in
set_option maxRecDepth 100000 in
theorem catchpitlaw08_same.calls (k : Nat) (A0_0 : Option Addr) (c0_0 : Nat) (l0_0 : List Int) (A0_1 : Option Addr) (c0_1 : Nat) (l0_1 : List (S53)) (a0_2 : Int) (A1_0 : Option Addr) (c1_0 : Nat) (l1_0 : List Int) (A1_1 : Option Addr) (c1_1 : Nat) (l1_1 : List (S53)) (a1_2 : Int) (r : Bool) (w : World) (hr0_0 : Kd.C (Kd.int .u8) w A0_0 l0_0.length l0_0) (hc0_0 : l0_0.length ≤ c0_0) (hr0_1 : Kd.C k53 w A0_1 l0_1.length l0_1) (hc0_1 : l0_1.length ≤ c0_1) (hr1_0 : Kd.C (Kd.int .u8) w A1_0 l1_0.length l1_0) (hc1_0 : l1_0.length ≤ c1_0) (hr1_1 : Kd.C k53 w A1_1 l1_1.length l1_1) (hc1_1 : l1_1.length ≤ c1_1) (hG : TabOk w) (h : catchpitlaw08_same.f k l0_0 l0_1 a0_2 l1_0 l1_1 a1_2 = some r) :
    Calls Tryd.prog 32 #[.agg #[.slice A0_0 l0_0.length c0_0, .slice A0_1 l0_1.length c0_1, .int .i64 a0_2], .agg #[.slice A1_0 l1_0.length c1_0, .slice A1_1 l1_1.length c1_1, .int .i64 a1_2]] w fun e w' => e = .returned (.bool r) ∧ Below w.heap.size w w' := by
  have hu57 := Tryd.underlying57
  have HR0_0 := Aside0.mk hr0_0
  have HC0_0 := Aside0.mk hc0_0
  clear hr0_0 hc0_0
  have HR0_1 := Aside0.mk hr0_1
  have HC0_1 := Aside0.mk hc0_1
  clear hr0_1 hc0_1
  have HR1_0 := Aside0.mk hr1_0
  have HC1_0 := Aside0.mk hc1_0
  clear hr1_0 hc1_0
  have HR1_1 := Aside0.mk hr1_1
  have HC1_1 := Aside0.mk hc1_1
  clear hr1_1 hc1_1
  have HB := Aside0.mk (Below.refl w.heap.size w)
  have H : ((catchpitref08_Same.f k l0_0 l1_0).bind fun t158 => (if t158 = true then ((catchpitref05_Fields.f k l0_1 l1_1).bind fun t159 => (if t159 = true then (some (a0_2 == a1_2)) else (some false))) else (some false))) = some r := h
  clear h
  replace H := Option.bind_eq_some_iff.mp H
  obtain ⟨t158, A30, H⟩ := H
  replace H : (if t158 = true then ((catchpitref05_Fields.f k l0_1 l1_1).bind fun t159 => (if t159 = true then (some (a0_2 == a1_2)) else (some false))) else (some false)) = some r := H
  have A3 := Aside0.mk A30
  clear A30
  by_cases c4 : t158 = true
  · subst c4
    have H1 : ((catchpitref05_Fields.f k l0_1 l1_1).bind fun t159 => (if t159 = true then (some (a0_2 == a1_2)) else (some false))) = some r := by rw [if_pos rfl] at H; exact H
    clear H
    have H := H1
    clear H1
    replace H := Option.bind_eq_some_iff.mp H
    obtain ⟨t159, A50, H⟩ := H
    replace H : (if t159 = true then (some (a0_2 == a1_2)) else (some false)) = some r := H
    have A5 := Aside0.mk A50
    clear A50
    by_cases c6 : t159 = true
    · subst c6
      have H1 : (some (a0_2 == a1_2)) = some r := by rw [if_pos rfl] at H; exact H
      clear H
      have H := H1
      clear H1
      obtain rfl := Option.some.inj H
      go_enter Tryd.func32, Tryd.ntmps32
      go_wp2_with (first | ((with_reducible refine gate_dst (N := 2) rfl ?_); refine box_event ?hg (N := 2) ?hd (cs := #[.slice A0_0 l0_0.length c0_0, .slice A0_1 l0_1.length c0_1, .int .i64 a0_2]) (t := 57) ?hr ?_; (case hd => rfl); (case hg => rfl); (case hr => first | (go_simp; done) | (go_simp; rfl)); intro gb156 hg w7 hbox hb; have n0_ := Aside0.mk (below_step (by repeat (first | (with_reducible first | exact HB.out | apply below_alloc | apply pw_below_drewN | apply below_drew1) | exact HB.out)) hb); have n1_ := Aside0.mk (hbox); have n2_ := Aside0.mk ((by rw [hg]; exact (below_size (by repeat (first | (with_reducible first | exact HB.out | apply below_alloc | apply pw_below_drewN | apply below_drew1) | exact HB.out))) : w.heap.size ≤ gb156)); have n3_ := Aside0.mk ((by rw [hg]; exact (below_size (by repeat (first | (with_reducible first | exact HB.out | apply below_alloc | apply pw_below_drewN | apply below_drew1) | exact HB.out))) : w.heap.size ≤ gb156)); clear HB; have HB := n0_; have BK156 := n1_; have GW156 := n2_; have GE156 := n3_; clear n0_ n1_ n2_ n3_; clear hb hbox hg) | ((with_reducible refine gate_dst (N := 3) rfl ?_); refine box_event ?hg (N := 3) ?hd (cs := #[.slice A1_0 l1_0.length c1_0, .slice A1_1 l1_1.length c1_1, .int .i64 a1_2]) (t := 57) ?hr ?_; (case hd => rfl); (case hg => rfl); (case hr => first | (go_simp; done) | (go_simp; rfl)); intro gb157 hg w8 hbox hb; have n0_ := Aside0.mk (blk_below (g := gb156) (o := .cells #[.slice A0_0 l0_0.length c0_0, .slice A0_1 l0_1.length c0_1, .int .i64 a0_2] 57 (0, 0)) (by (with_reducible repeat (first | refine blk_drewN ?_ _ | refine blk_drew ?_ | refine blk_alloc ?_ _)); exact BK156.out) hb); have n1_ := Aside0.mk (below_step (by repeat (first | (with_reducible first | exact HB.out | apply below_alloc | apply pw_below_drewN | apply below_drew1 | refine below_set ?_ GE156.out) | exact HB.out)) hb); have n2_ := Aside0.mk (hbox); have n3_ := Aside0.mk ((by rw [hg]; exact (below_size (by repeat (first | (with_reducible first | exact HB.out | apply below_alloc | apply pw_below_drewN | apply below_drew1 | refine below_set ?_ GE156.out) | exact HB.out))) : w.heap.size ≤ gb157)); have n4_ := Aside0.mk ((by rw [hg]; exact (below_size (by repeat (first | (with_reducible first | exact HB.out | apply below_alloc | apply pw_below_drewN | apply below_drew1 | refine below_set ?_ GE156.out) | exact HB.out))) : w.heap.size ≤ gb157)); have n5_ := Aside0.mk ((by rw [hg]; exact Nat.ne_of_lt (blk_lt (g := gb156) (o := .cells #[.slice A0_0 l0_0.length c0_0, .slice A0_1 l0_1.length c0_1, .int .i64 a0_2] 57 (0, 0)) (by (with_reducible repeat (first | refine blk_drewN ?_ _ | refine blk_drew ?_ | refine blk_alloc ?_ _)); exact BK156.out)) : gb156 ≠ gb157)); have n6_ := Aside0.mk ((by rw [hg]; exact Nat.ne_of_gt (blk_lt (g := gb156) (o := .cells #[.slice A0_0 l0_0.length c0_0, .slice A0_1 l0_1.length c0_1, .int .i64 a0_2] 57 (0, 0)) (by (with_reducible repeat (first | refine blk_drewN ?_ _ | refine blk_drew ?_ | refine blk_alloc ?_ _)); exact BK156.out)) : gb157 ≠ gb156)); clear BK156; clear HB; have BK156 := n0_; have HB := n1_; have BK157 := n2_; have GW157 := n3_; have GE157 := n4_; have NB156_157 := n5_; have NB157_156 := n6_; clear n0_ n1_ n2_ n3_ n4_ n5_ n6_; clear hb hbox hg; have hnb9 := NB156_157.out; have hnc9 := NB157_156.out; have hcz10_0 : w8.cell? ⟨gb156, 0, none⟩ = some (.slice A0_0 l0_0.length c0_0) := (blk_cell BK156.out 0).trans rfl; have hcz10_1 : w8.cell? ⟨gb156, 1, none⟩ = some (.slice A0_1 l0_1.length c0_1) := (blk_cell BK156.out 1).trans rfl; have hcz10_2 : w8.cell? ⟨gb156, 2, none⟩ = some (.int .i64 a0_2) := (blk_cell BK156.out 2).trans rfl; have hfz10_0 := blk_frozen BK156.out 0; have hfz10_1 := blk_frozen BK156.out 1; have hfz10_2 := blk_frozen BK156.out 2; have hcz11_0 : w8.cell? ⟨gb157, 0, none⟩ = some (.slice A1_0 l1_0.length c1_0) := (blk_cell BK157.out 0).trans rfl; have hcz11_1 : w8.cell? ⟨gb157, 1, none⟩ = some (.slice A1_1 l1_1.length c1_1) := (blk_cell BK157.out 1).trans rfl; have hcz11_2 : w8.cell? ⟨gb157, 2, none⟩ = some (.int .i64 a1_2) := (blk_cell BK157.out 2).trans rfl; have hfz11_0 := blk_frozen BK157.out 0; have hfz11_1 := blk_frozen BK157.out 1; have hfz11_2 := blk_frozen BK157.out 2) | ((with_reducible refine gate_callee (f := 22) rfl ?_); refine goesL_ (some 9) rfl rfl Tryd.func22 (by kernel_rfl) rfl #[.slice A0_0 l0_0.length c0_0, .slice A1_0 l1_0.length c1_0] rfl (by (try simp only [List.map_toArray, List.map_cons, List.map_nil]); first | done | rfl | (simp only [List.length_drop, List.length_take]; rfl)) ?_; (with_reducible refine (catchpitref08_Same.calls k _ _ l0_0 _ _ l1_0 true _ ?side1 ?side2 ?side3 ?side4 ?side5 A3.out).mono ?_); (case side1 => repeat (first | exact (Kd.C_below HR0_0.out HB.out) | (with_reducible refine Kd.C_alloc ?_ _) | (with_reducible refine Kd.C_drewN ?_ _) | (with_reducible refine Kd.C_drew ?_))); (case side2 => exact HC0_0.out); (case side3 => repeat (first | exact (Kd.C_below HR1_0.out HB.out) | (with_reducible refine Kd.C_alloc ?_ _) | (with_reducible refine Kd.C_drewN ?_ _) | (with_reducible refine Kd.C_drew ?_))); (case side4 => exact HC1_0.out); (case side5 => first | exact hG | exact TabOk.drewN hG _ | exact TabOk.drewN (TabOk.drewN hG _) _ | exact TabOk.below hG (by repeat (first | (with_reducible first | exact HB.out | apply below_alloc | apply pw_below_drewN | apply below_drew1 | refine below_set ?_ GE156.out | refine below_set ?_ GE157.out) | exact HB.out))); rintro e w' ⟨rfl, ⟨nd, rfl⟩⟩; refine ⟨_, rfl, ?_⟩) | (go_at_call 24; (with_reducible refine (catchpitref05_Fields.calls k _ _ l0_1 _ _ l1_1 true _ ?side1 ?side2 ?side3 ?side4 ?side5 A5.out).mono ?_); (case side1 => repeat (first | exact (Kd.C_below HR0_1.out (by repeat (first | (with_reducible first | exact HB.out | apply below_alloc | apply pw_below_drewN | apply below_drew1 | refine below_set ?_ GE156.out | refine below_set ?_ GE157.out) | exact HB.out))) | (with_reducible refine Kd.C_alloc ?_ _) | (with_reducible refine Kd.C_drewN ?_ _) | (with_reducible refine Kd.C_drew ?_))); (case side2 => exact HC0_1.out); (case side3 => repeat (first | exact (Kd.C_below HR1_1.out (by repeat (first | (with_reducible first | exact HB.out | apply below_alloc | apply pw_below_drewN | apply below_drew1 | refine below_set ?_ GE156.out | refine below_set ?_ GE157.out) | exact HB.out))) | (with_reducible refine Kd.C_alloc ?_ _) | (with_reducible refine Kd.C_drewN ?_ _) | (with_reducible refine Kd.C_drew ?_))); (case side4 => exact HC1_1.out); (case side5 => first | exact hG | exact TabOk.drewN hG _ | exact TabOk.drewN (TabOk.drewN hG _) _ | exact TabOk.below hG (by repeat (first | (with_reducible first | exact HB.out | apply below_alloc | apply pw_below_drewN | apply below_drew1 | refine below_set ?_ GE156.out | refine below_set ?_ GE157.out) | exact HB.out))); rintro e w' ⟨rfl, ⟨nd, rfl⟩⟩))
      go_ret
      exact ⟨by first | rfl | (simp [errW_none, errW_some] <;> rfl) | (simp [*, errW_none, errW_some] <;> rfl), by repeat (first | (with_reducible first | exact HB.out | apply below_alloc | apply pw_below_drewN | apply below_drew1 | refine below_set ?_ GE156.out | refine below_set ?_ GE157.out) | exact HB.out)⟩
    · replace c6 := Bool.eq_false_iff.mpr c6
      subst c6
      have H1 : (some false) = some r := by rw [if_neg (show ¬ (false = true) by decide)] at H; exact H
      clear H
      have H := H1
      clear H1
      obtain rfl := Option.some.inj H
      go_enter Tryd.func32, Tryd.ntmps32
      go_wp2_with (first | ((with_reducible refine gate_dst (N := 2) rfl ?_); refine box_event ?hg (N := 2) ?hd (cs := #[.slice A0_0 l0_0.length c0_0, .slice A0_1 l0_1.length c0_1, .int .i64 a0_2]) (t := 57) ?hr ?_; (case hd => rfl); (case hg => rfl); (case hr => first | (go_simp; done) | (go_simp; rfl)); intro gb156 hg w12 hbox hb; have n0_ := Aside0.mk (below_step (by repeat (first | (with_reducible first | exact HB.out | apply below_alloc | apply pw_below_drewN | apply below_drew1) | exact HB.out)) hb); have n1_ := Aside0.mk (hbox); have n2_ := Aside0.mk ((by rw [hg]; exact (below_size (by repeat (first | (with_reducible first | exact HB.out | apply below_alloc | apply pw_below_drewN | apply below_drew1) | exact HB.out))) : w.heap.size ≤ gb156)); have n3_ := Aside0.mk ((by rw [hg]; exact (below_size (by repeat (first | (with_reducible first | exact HB.out | apply below_alloc | apply pw_below_drewN | apply below_drew1) | exact HB.out))) : w.heap.size ≤ gb156)); clear HB; have HB := n0_; have BK156 := n1_; have GW156 := n2_; have GE156 := n3_; clear n0_ n1_ n2_ n3_; clear hb hbox hg) | ((with_reducible refine gate_dst (N := 3) rfl ?_); refine box_event ?hg (N := 3) ?hd (cs := #[.slice A1_0 l1_0.length c1_0, .slice A1_1 l1_1.length c1_1, .int .i64 a1_2]) (t := 57) ?hr ?_; (case hd => rfl); (case hg => rfl); (case hr => first | (go_simp; done) | (go_simp; rfl)); intro gb157 hg w13 hbox hb; have n0_ := Aside0.mk (blk_below (g := gb156) (o := .cells #[.slice A0_0 l0_0.length c0_0, .slice A0_1 l0_1.length c0_1, .int .i64 a0_2] 57 (0, 0)) (by (with_reducible repeat (first | refine blk_drewN ?_ _ | refine blk_drew ?_ | refine blk_alloc ?_ _)); exact BK156.out) hb); have n1_ := Aside0.mk (below_step (by repeat (first | (with_reducible first | exact HB.out | apply below_alloc | apply pw_below_drewN | apply below_drew1 | refine below_set ?_ GE156.out) | exact HB.out)) hb); have n2_ := Aside0.mk (hbox); have n3_ := Aside0.mk ((by rw [hg]; exact (below_size (by repeat (first | (with_reducible first | exact HB.out | apply below_alloc | apply pw_below_drewN | apply below_drew1 | refine below_set ?_ GE156.out) | exact HB.out))) : w.heap.size ≤ gb157)); have n4_ := Aside0.mk ((by rw [hg]; exact (below_size (by repeat (first | (with_reducible first | exact HB.out | apply below_alloc | apply pw_below_drewN | apply below_drew1 | refine below_set ?_ GE156.out) | exact HB.out))) : w.heap.size ≤ gb157)); have n5_ := Aside0.mk ((by rw [hg]; exact Nat.ne_of_lt (blk_lt (g := gb156) (o := .cells #[.slice A0_0 l0_0.length c0_0, .slice A0_1 l0_1.length c0_1, .int .i64 a0_2] 57 (0, 0)) (by (with_reducible repeat (first | refine blk_drewN ?_ _ | refine blk_drew ?_ | refine blk_alloc ?_ _)); exact BK156.out)) : gb156 ≠ gb157)); have n6_ := Aside0.mk ((by rw [hg]; exact Nat.ne_of_gt (blk_lt (g := gb156) (o := .cells #[.slice A0_0 l0_0.length c0_0, .slice A0_1 l0_1.length c0_1, .int .i64 a0_2] 57 (0, 0)) (by (with_reducible repeat (first | refine blk_drewN ?_ _ | refine blk_drew ?_ | refine blk_alloc ?_ _)); exact BK156.out)) : gb157 ≠ gb156)); clear BK156; clear HB; have BK156 := n0_; have HB := n1_; have BK157 := n2_; have GW157 := n3_; have GE157 := n4_; have NB156_157 := n5_; have NB157_156 := n6_; clear n0_ n1_ n2_ n3_ n4_ n5_ n6_; clear hb hbox hg; have hnb14 := NB156_157.out; have hnc14 := NB157_156.out; have hcz15_0 : w13.cell? ⟨gb156, 0, none⟩ = some (.slice A0_0 l0_0.length c0_0) := (blk_cell BK156.out 0).trans rfl; have hcz15_1 : w13.cell? ⟨gb156, 1, none⟩ = some (.slice A0_1 l0_1.length c0_1) := (blk_cell BK156.out 1).trans rfl; have hcz15_2 : w13.cell? ⟨gb156, 2, none⟩ = some (.int .i64 a0_2) := (blk_cell BK156.out 2).trans rfl; have hfz15_0 := blk_frozen BK156.out 0; have hfz15_1 := blk_frozen BK156.out 1; have hfz15_2 := blk_frozen BK156.out 2; have hcz16_0 : w13.cell? ⟨gb157, 0, none⟩ = some (.slice A1_0 l1_0.length c1_0) := (blk_cell BK157.out 0).trans rfl; have hcz16_1 : w13.cell? ⟨gb157, 1, none⟩ = some (.slice A1_1 l1_1.length c1_1) := (blk_cell BK157.out 1).trans rfl; have hcz16_2 : w13.cell? ⟨gb157, 2, none⟩ = some (.int .i64 a1_2) := (blk_cell BK157.out 2).trans rfl; have hfz16_0 := blk_frozen BK157.out 0; have hfz16_1 := blk_frozen BK157.out 1; have hfz16_2 := blk_frozen BK157.out 2) | ((with_reducible refine gate_callee (f := 22) rfl ?_); refine goesL_ (some 9) rfl rfl Tryd.func22 (by kernel_rfl) rfl #[.slice A0_0 l0_0.length c0_0, .slice A1_0 l1_0.length c1_0] rfl (by (try simp only [List.map_toArray, List.map_cons, List.map_nil]); first | done | rfl | (simp only [List.length_drop, List.length_take]; rfl)) ?_; (with_reducible refine (catchpitref08_Same.calls k _ _ l0_0 _ _ l1_0 true _ ?side1 ?side2 ?side3 ?side4 ?side5 A3.out).mono ?_); (case side1 => repeat (first | exact (Kd.C_below HR0_0.out HB.out) | (with_reducible refine Kd.C_alloc ?_ _) | (with_reducible refine Kd.C_drewN ?_ _) | (with_reducible refine Kd.C_drew ?_))); (case side2 => exact HC0_0.out); (case side3 => repeat (first | exact (Kd.C_below HR1_0.out HB.out) | (with_reducible refine Kd.C_alloc ?_ _) | (with_reducible refine Kd.C_drewN ?_ _) | (with_reducible refine Kd.C_drew ?_))); (case side4 => exact HC1_0.out); (case side5 => first | exact hG | exact TabOk.drewN hG _ | exact TabOk.drewN (TabOk.drewN hG _) _ | exact TabOk.below hG (by repeat (first | (with_reducible first | exact HB.out | apply below_alloc | apply pw_below_drewN | apply below_drew1 | refine below_set ?_ GE156.out | refine below_set ?_ GE157.out) | exact HB.out))); rintro e w' ⟨rfl, ⟨nd, rfl⟩⟩; refine ⟨_, rfl, ?_⟩) | (go_at_call 24; (with_reducible refine (catchpitref05_Fields.calls k _ _ l0_1 _ _ l1_1 false _ ?side1 ?side2 ?side3 ?side4 ?side5 A5.out).mono ?_); (case side1 => repeat (first | exact (Kd.C_below HR0_1.out (by repeat (first | (with_reducible first | exact HB.out | apply below_alloc | apply pw_below_drewN | apply below_drew1 | refine below_set ?_ GE156.out | refine below_set ?_ GE157.out) | exact HB.out))) | (with_reducible refine Kd.C_alloc ?_ _) | (with_reducible refine Kd.C_drewN ?_ _) | (with_reducible refine Kd.C_drew ?_))); (case side2 => exact HC0_1.out); (case side3 => repeat (first | exact (Kd.C_below HR1_1.out (by repeat (first | (with_reducible first | exact HB.out | apply below_alloc | apply pw_below_drewN | apply below_drew1 | refine below_set ?_ GE156.out | refine below_set ?_ GE157.out) | exact HB.out))) | (with_reducible refine Kd.C_alloc ?_ _) | (with_reducible refine Kd.C_drewN ?_ _) | (with_reducible refine Kd.C_drew ?_))); (case side4 => exact HC1_1.out); (case side5 => first | exact hG | exact TabOk.drewN hG _ | exact TabOk.drewN (TabOk.drewN hG _) _ | exact TabOk.below hG (by repeat (first | (with_reducible first | exact HB.out | apply below_alloc | apply pw_below_drewN | apply below_drew1 | refine below_set ?_ GE156.out | refine below_set ?_ GE157.out) | exact HB.out))); rintro e w' ⟨rfl, ⟨nd, rfl⟩⟩))
      go_ret
      exact ⟨by first | rfl | (simp [errW_none, errW_some] <;> rfl) | (simp [*, errW_none, errW_some] <;> rfl), by repeat (first | (with_reducible first | exact HB.out | apply below_alloc | apply pw_below_drewN | apply below_drew1 | refine below_set ?_ GE156.out | refine below_set ?_ GE157.out) | exact HB.out)⟩
  · replace c4 := Bool.eq_false_iff.mpr c4
    subst c4
    have H1 : (some false) = some r := by rw [if_neg (show ¬ (false = true) by decide)] at H; exact H
    clear H
    have H := H1
    clear H1
    obtain rfl := Option.some.inj H
    go_enter Tryd.func32, Tryd.ntmps32
    go_wp2_with (first | ((with_reducible refine gate_dst (N := 2) rfl ?_); refine box_event ?hg (N := 2) ?hd (cs := #[.slice A0_0 l0_0.length c0_0, .slice A0_1 l0_1.length c0_1, .int .i64 a0_2]) (t := 57) ?hr ?_; (case hd => rfl); (case hg => rfl); (case hr => first | (go_simp; done) | (go_simp; rfl)); intro gb156 hg w17 hbox hb; have n0_ := Aside0.mk (below_step (by repeat (first | (with_reducible first | exact HB.out | apply below_alloc | apply pw_below_drewN | apply below_drew1) | exact HB.out)) hb); have n1_ := Aside0.mk (hbox); have n2_ := Aside0.mk ((by rw [hg]; exact (below_size (by repeat (first | (with_reducible first | exact HB.out | apply below_alloc | apply pw_below_drewN | apply below_drew1) | exact HB.out))) : w.heap.size ≤ gb156)); have n3_ := Aside0.mk ((by rw [hg]; exact (below_size (by repeat (first | (with_reducible first | exact HB.out | apply below_alloc | apply pw_below_drewN | apply below_drew1) | exact HB.out))) : w.heap.size ≤ gb156)); clear HB; have HB := n0_; have BK156 := n1_; have GW156 := n2_; have GE156 := n3_; clear n0_ n1_ n2_ n3_; clear hb hbox hg) | ((with_reducible refine gate_dst (N := 3) rfl ?_); refine box_event ?hg (N := 3) ?hd (cs := #[.slice A1_0 l1_0.length c1_0, .slice A1_1 l1_1.length c1_1, .int .i64 a1_2]) (t := 57) ?hr ?_; (case hd => rfl); (case hg => rfl); (case hr => first | (go_simp; done) | (go_simp; rfl)); intro gb157 hg w18 hbox hb; have n0_ := Aside0.mk (blk_below (g := gb156) (o := .cells #[.slice A0_0 l0_0.length c0_0, .slice A0_1 l0_1.length c0_1, .int .i64 a0_2] 57 (0, 0)) (by (with_reducible repeat (first | refine blk_drewN ?_ _ | refine blk_drew ?_ | refine blk_alloc ?_ _)); exact BK156.out) hb); have n1_ := Aside0.mk (below_step (by repeat (first | (with_reducible first | exact HB.out | apply below_alloc | apply pw_below_drewN | apply below_drew1 | refine below_set ?_ GE156.out) | exact HB.out)) hb); have n2_ := Aside0.mk (hbox); have n3_ := Aside0.mk ((by rw [hg]; exact (below_size (by repeat (first | (with_reducible first | exact HB.out | apply below_alloc | apply pw_below_drewN | apply below_drew1 | refine below_set ?_ GE156.out) | exact HB.out))) : w.heap.size ≤ gb157)); have n4_ := Aside0.mk ((by rw [hg]; exact (below_size (by repeat (first | (with_reducible first | exact HB.out | apply below_alloc | apply pw_below_drewN | apply below_drew1 | refine below_set ?_ GE156.out) | exact HB.out))) : w.heap.size ≤ gb157)); have n5_ := Aside0.mk ((by rw [hg]; exact Nat.ne_of_lt (blk_lt (g := gb156) (o := .cells #[.slice A0_0 l0_0.length c0_0, .slice A0_1 l0_1.length c0_1, .int .i64 a0_2] 57 (0, 0)) (by (with_reducible repeat (first | refine blk_drewN ?_ _ | refine blk_drew ?_ | refine blk_alloc ?_ _)); exact BK156.out)) : gb156 ≠ gb157)); have n6_ := Aside0.mk ((by rw [hg]; exact Nat.ne_of_gt (blk_lt (g := gb156) (o := .cells #[.slice A0_0 l0_0.length c0_0, .slice A0_1 l0_1.length c0_1, .int .i64 a0_2] 57 (0, 0)) (by (with_reducible repeat (first | refine blk_drewN ?_ _ | refine blk_drew ?_ | refine blk_alloc ?_ _)); exact BK156.out)) : gb157 ≠ gb156)); clear BK156; clear HB; have BK156 := n0_; have HB := n1_; have BK157 := n2_; have GW157 := n3_; have GE157 := n4_; have NB156_157 := n5_; have NB157_156 := n6_; clear n0_ n1_ n2_ n3_ n4_ n5_ n6_; clear hb hbox hg; have hnb19 := NB156_157.out; have hnc19 := NB157_156.out; have hcz20_0 : w18.cell? ⟨gb156, 0, none⟩ = some (.slice A0_0 l0_0.length c0_0) := (blk_cell BK156.out 0).trans rfl; have hcz20_1 : w18.cell? ⟨gb156, 1, none⟩ = some (.slice A0_1 l0_1.length c0_1) := (blk_cell BK156.out 1).trans rfl; have hcz20_2 : w18.cell? ⟨gb156, 2, none⟩ = some (.int .i64 a0_2) := (blk_cell BK156.out 2).trans rfl; have hfz20_0 := blk_frozen BK156.out 0; have hfz20_1 := blk_frozen BK156.out 1; have hfz20_2 := blk_frozen BK156.out 2; have hcz21_0 : w18.cell? ⟨gb157, 0, none⟩ = some (.slice A1_0 l1_0.length c1_0) := (blk_cell BK157.out 0).trans rfl; have hcz21_1 : w18.cell? ⟨gb157, 1, none⟩ = some (.slice A1_1 l1_1.length c1_1) := (blk_cell BK157.out 1).trans rfl; have hcz21_2 : w18.cell? ⟨gb157, 2, none⟩ = some (.int .i64 a1_2) := (blk_cell BK157.out 2).trans rfl; have hfz21_0 := blk_frozen BK157.out 0; have hfz21_1 := blk_frozen BK157.out 1; have hfz21_2 := blk_frozen BK157.out 2) | ((with_reducible refine gate_callee (f := 22) rfl ?_); refine goesL_ (some 9) rfl rfl Tryd.func22 (by kernel_rfl) rfl #[.slice A0_0 l0_0.length c0_0, .slice A1_0 l1_0.length c1_0] rfl (by (try simp only [List.map_toArray, List.map_cons, List.map_nil]); first | done | rfl | (simp only [List.length_drop, List.length_take]; rfl)) ?_; (with_reducible refine (catchpitref08_Same.calls k _ _ l0_0 _ _ l1_0 false _ ?side1 ?side2 ?side3 ?side4 ?side5 A3.out).mono ?_); (case side1 => repeat (first | exact (Kd.C_below HR0_0.out HB.out) | (with_reducible refine Kd.C_alloc ?_ _) | (with_reducible refine Kd.C_drewN ?_ _) | (with_reducible refine Kd.C_drew ?_))); (case side2 => exact HC0_0.out); (case side3 => repeat (first | exact (Kd.C_below HR1_0.out HB.out) | (with_reducible refine Kd.C_alloc ?_ _) | (with_reducible refine Kd.C_drewN ?_ _) | (with_reducible refine Kd.C_drew ?_))); (case side4 => exact HC1_0.out); (case side5 => first | exact hG | exact TabOk.drewN hG _ | exact TabOk.drewN (TabOk.drewN hG _) _ | exact TabOk.below hG (by repeat (first | (with_reducible first | exact HB.out | apply below_alloc | apply pw_below_drewN | apply below_drew1 | refine below_set ?_ GE156.out | refine below_set ?_ GE157.out) | exact HB.out))); rintro e w' ⟨rfl, ⟨nd, rfl⟩⟩; refine ⟨_, rfl, ?_⟩))
    go_ret
    exact ⟨by first | rfl | (simp [errW_none, errW_some] <;> rfl) | (simp [*, errW_none, errW_some] <;> rfl), by repeat (first | (with_reducible first | exact HB.out | apply below_alloc | apply pw_below_drewN | apply below_drew1 | refine below_set ?_ GE156.out | refine below_set ?_ GE157.out) | exact HB.out)⟩
end Go.Proofs.YtmmbpbgcobmifaaDoor.Pr
end
section
namespace Go.Proofs.YtmmbpbgcobmifaaDoor.Pr
open Go.RowKit Go.Proofs.YtmmbpbgcobmifaaDoorH Go.Proofs.YtmmbpbgcobmifaaDoorW.PrintWords Go.Proofs.YtmmbpbgcobmifaaDoorW.PrintLast Go.Proofs.YtmmbpbgcobmifaaDoorW.PrintMore
attribute [local go_sem] max2_int min2_int max_two min_two max_three min_three max_four min_four   -- for this text's walks alone
set_option linter.unusedVariables false
set_option linter.unusedSimpArgs false
def catchpitref08_Right.f (a0_0 : Int) (a0_1 : Int) (a0_2 : Int) : Option (Bool) := if a0_0 ≥ 0 then (if a0_0 ≤ 65536 then (if a0_1 ≥ 0 then (if a0_1 ≤ 65536 then (if a0_2 ≥ 0 then (some (decide (a0_2 ≤ 65536))) else (some false)) else (some false)) else (some false)) else (some false)) else (some false)
set_option maxHeartbeats 8000000 in
set_option maxRecDepth 100000 in
theorem catchpitref08_Right.calls (a0_0 : Int) (a0_1 : Int) (a0_2 : Int) (r : Bool) (w : World) (hG : TabOk w) (h : catchpitref08_Right.f a0_0 a0_1 a0_2 = some r) :
    Calls Tryd.prog 14 #[.agg #[.int .i64 a0_0, .int .i64 a0_1, .int .i64 a0_2]] w fun e w' => e = .returned (.bool r) ∧ Below w.heap.size w w' := by
  have hu23 := Tryd.underlying23
  have HB := Aside0.mk (Below.refl w.heap.size w)
  have H : (if a0_0 ≥ 0 then (if a0_0 ≤ 65536 then (if a0_1 ≥ 0 then (if a0_1 ≤ 65536 then (if a0_2 ≥ 0 then (some (decide (a0_2 ≤ 65536))) else (some false)) else (some false)) else (some false)) else (some false)) else (some false)) = some r := h
  clear h
  by_cases c2 : a0_0 ≥ 0
  · rw [if_pos c2] at H
    have c2b0 : decide (0 ≤ a0_0) = true := decide_eq_true c2
    clear c2
    by_cases c3 : a0_0 ≤ 65536
    · rw [if_pos c3] at H
      have c3b0 : decide (a0_0 ≤ 65536) = true := decide_eq_true c3
      clear c3
      by_cases c4 : a0_1 ≥ 0
      · rw [if_pos c4] at H
        have c4b0 : decide (0 ≤ a0_1) = true := decide_eq_true c4
        clear c4
        by_cases c5 : a0_1 ≤ 65536
        · rw [if_pos c5] at H
          have c5b0 : decide (a0_1 ≤ 65536) = true := decide_eq_true c5
          clear c5
          by_cases c6 : a0_2 ≥ 0
          · rw [if_pos c6] at H
            have c6b0 : decide (0 ≤ a0_2) = true := decide_eq_true c6
            clear c6
            obtain rfl := Option.some.inj H
            go_enter Tryd.func14, Tryd.ntmps14
            go_wp2_with (first | ((with_reducible refine gate_dst (N := 1) rfl ?_); refine box_event ?hg (N := 1) ?hd (cs := #[.int .i64 a0_0, .int .i64 a0_1, .int .i64 a0_2]) (t := 23) ?hr ?_; (case hd => rfl); (case hg => rfl); (case hr => first | (go_simp; done) | (go_simp; rfl)); intro gb164 hg w7 hbox hb; have n0_ := Aside0.mk (below_step (by repeat (first | (with_reducible first | exact HB.out | apply below_alloc | apply pw_below_drewN | apply below_drew1) | exact HB.out)) hb); have n1_ := Aside0.mk (hbox); have n2_ := Aside0.mk ((by rw [hg]; exact (below_size (by repeat (first | (with_reducible first | exact HB.out | apply below_alloc | apply pw_below_drewN | apply below_drew1) | exact HB.out))) : w.heap.size ≤ gb164)); have n3_ := Aside0.mk ((by rw [hg]; exact (below_size (by repeat (first | (with_reducible first | exact HB.out | apply below_alloc | apply pw_below_drewN | apply below_drew1) | exact HB.out))) : w.heap.size ≤ gb164)); clear HB; have HB := n0_; have BK164 := n1_; have GW164 := n2_; have GE164 := n3_; clear n0_ n1_ n2_ n3_; clear hb hbox hg; have hcz8_0 : w7.cell? ⟨gb164, 0, none⟩ = some (.int .i64 a0_0) := (blk_cell BK164.out 0).trans rfl; have hcz8_1 : w7.cell? ⟨gb164, 1, none⟩ = some (.int .i64 a0_1) := (blk_cell BK164.out 1).trans rfl; have hcz8_2 : w7.cell? ⟨gb164, 2, none⟩ = some (.int .i64 a0_2) := (blk_cell BK164.out 2).trans rfl; have hfz8_0 := blk_frozen BK164.out 0; have hfz8_1 := blk_frozen BK164.out 1; have hfz8_2 := blk_frozen BK164.out 2))
            go_ret
            exact ⟨by first | rfl | (simp [errW_none, errW_some] <;> rfl) | (simp [*, errW_none, errW_some] <;> rfl), by repeat (first | (with_reducible first | exact HB.out | apply below_alloc | apply pw_below_drewN | apply below_drew1 | refine below_set ?_ GE164.out) | exact HB.out)⟩
          · rw [if_neg c6] at H
            have c6b0 : decide (0 ≤ a0_2) = false := decide_eq_false c6
            clear c6
            obtain rfl := Option.some.inj H
            go_enter Tryd.func14, Tryd.ntmps14
            go_wp2_with (first | ((with_reducible refine gate_dst (N := 1) rfl ?_); refine box_event ?hg (N := 1) ?hd (cs := #[.int .i64 a0_0, .int .i64 a0_1, .int .i64 a0_2]) (t := 23) ?hr ?_; (case hd => rfl); (case hg => rfl); (case hr => first | (go_simp; done) | (go_simp; rfl)); intro gb164 hg w9 hbox hb; have n0_ := Aside0.mk (below_step (by repeat (first | (with_reducible first | exact HB.out | apply below_alloc | apply pw_below_drewN | apply below_drew1) | exact HB.out)) hb); have n1_ := Aside0.mk (hbox); have n2_ := Aside0.mk ((by rw [hg]; exact (below_size (by repeat (first | (with_reducible first | exact HB.out | apply below_alloc | apply pw_below_drewN | apply below_drew1) | exact HB.out))) : w.heap.size ≤ gb164)); have n3_ := Aside0.mk ((by rw [hg]; exact (below_size (by repeat (first | (with_reducible first | exact HB.out | apply below_alloc | apply pw_below_drewN | apply below_drew1) | exact HB.out))) : w.heap.size ≤ gb164)); clear HB; have HB := n0_; have BK164 := n1_; have GW164 := n2_; have GE164 := n3_; clear n0_ n1_ n2_ n3_; clear hb hbox hg; have hcz10_0 : w9.cell? ⟨gb164, 0, none⟩ = some (.int .i64 a0_0) := (blk_cell BK164.out 0).trans rfl; have hcz10_1 : w9.cell? ⟨gb164, 1, none⟩ = some (.int .i64 a0_1) := (blk_cell BK164.out 1).trans rfl; have hcz10_2 : w9.cell? ⟨gb164, 2, none⟩ = some (.int .i64 a0_2) := (blk_cell BK164.out 2).trans rfl; have hfz10_0 := blk_frozen BK164.out 0; have hfz10_1 := blk_frozen BK164.out 1; have hfz10_2 := blk_frozen BK164.out 2))
            go_ret
            exact ⟨by first | rfl | (simp [errW_none, errW_some] <;> rfl) | (simp [*, errW_none, errW_some] <;> rfl), by repeat (first | (with_reducible first | exact HB.out | apply below_alloc | apply pw_below_drewN | apply below_drew1 | refine below_set ?_ GE164.out) | exact HB.out)⟩
        · rw [if_neg c5] at H
          have c5b0 : decide (a0_1 ≤ 65536) = false := decide_eq_false c5
          clear c5
          obtain rfl := Option.some.inj H
          go_enter Tryd.func14, Tryd.ntmps14
          go_wp2_with (first | ((with_reducible refine gate_dst (N := 1) rfl ?_); refine box_event ?hg (N := 1) ?hd (cs := #[.int .i64 a0_0, .int .i64 a0_1, .int .i64 a0_2]) (t := 23) ?hr ?_; (case hd => rfl); (case hg => rfl); (case hr => first | (go_simp; done) | (go_simp; rfl)); intro gb164 hg w11 hbox hb; have n0_ := Aside0.mk (below_step (by repeat (first | (with_reducible first | exact HB.out | apply below_alloc | apply pw_below_drewN | apply below_drew1) | exact HB.out)) hb); have n1_ := Aside0.mk (hbox); have n2_ := Aside0.mk ((by rw [hg]; exact (below_size (by repeat (first | (with_reducible first | exact HB.out | apply below_alloc | apply pw_below_drewN | apply below_drew1) | exact HB.out))) : w.heap.size ≤ gb164)); have n3_ := Aside0.mk ((by rw [hg]; exact (below_size (by repeat (first | (with_reducible first | exact HB.out | apply below_alloc | apply pw_below_drewN | apply below_drew1) | exact HB.out))) : w.heap.size ≤ gb164)); clear HB; have HB := n0_; have BK164 := n1_; have GW164 := n2_; have GE164 := n3_; clear n0_ n1_ n2_ n3_; clear hb hbox hg; have hcz12_0 : w11.cell? ⟨gb164, 0, none⟩ = some (.int .i64 a0_0) := (blk_cell BK164.out 0).trans rfl; have hcz12_1 : w11.cell? ⟨gb164, 1, none⟩ = some (.int .i64 a0_1) := (blk_cell BK164.out 1).trans rfl; have hcz12_2 : w11.cell? ⟨gb164, 2, none⟩ = some (.int .i64 a0_2) := (blk_cell BK164.out 2).trans rfl; have hfz12_0 := blk_frozen BK164.out 0; have hfz12_1 := blk_frozen BK164.out 1; have hfz12_2 := blk_frozen BK164.out 2))
          go_ret
          exact ⟨by first | rfl | (simp [errW_none, errW_some] <;> rfl) | (simp [*, errW_none, errW_some] <;> rfl), by repeat (first | (with_reducible first | exact HB.out | apply below_alloc | apply pw_below_drewN | apply below_drew1 | refine below_set ?_ GE164.out) | exact HB.out)⟩
      · rw [if_neg c4] at H
        have c4b0 : decide (0 ≤ a0_1) = false := decide_eq_false c4
        clear c4
        obtain rfl := Option.some.inj H
        go_enter Tryd.func14, Tryd.ntmps14
        go_wp2_with (first | ((with_reducible refine gate_dst (N := 1) rfl ?_); refine box_event ?hg (N := 1) ?hd (cs := #[.int .i64 a0_0, .int .i64 a0_1, .int .i64 a0_2]) (t := 23) ?hr ?_; (case hd => rfl); (case hg => rfl); (case hr => first | (go_simp; done) | (go_simp; rfl)); intro gb164 hg w13 hbox hb; have n0_ := Aside0.mk (below_step (by repeat (first | (with_reducible first | exact HB.out | apply below_alloc | apply pw_below_drewN | apply below_drew1) | exact HB.out)) hb); have n1_ := Aside0.mk (hbox); have n2_ := Aside0.mk ((by rw [hg]; exact (below_size (by repeat (first | (with_reducible first | exact HB.out | apply below_alloc | apply pw_below_drewN | apply below_drew1) | exact HB.out))) : w.heap.size ≤ gb164)); have n3_ := Aside0.mk ((by rw [hg]; exact (below_size (by repeat (first | (with_reducible first | exact HB.out | apply below_alloc | apply pw_below_drewN | apply below_drew1) | exact HB.out))) : w.heap.size ≤ gb164)); clear HB; have HB := n0_; have BK164 := n1_; have GW164 := n2_; have GE164 := n3_; clear n0_ n1_ n2_ n3_; clear hb hbox hg; have hcz14_0 : w13.cell? ⟨gb164, 0, none⟩ = some (.int .i64 a0_0) := (blk_cell BK164.out 0).trans rfl; have hcz14_1 : w13.cell? ⟨gb164, 1, none⟩ = some (.int .i64 a0_1) := (blk_cell BK164.out 1).trans rfl; have hcz14_2 : w13.cell? ⟨gb164, 2, none⟩ = some (.int .i64 a0_2) := (blk_cell BK164.out 2).trans rfl; have hfz14_0 := blk_frozen BK164.out 0; have hfz14_1 := blk_frozen BK164.out 1; have hfz14_2 := blk_frozen BK164.out 2))
        go_ret
        exact ⟨by first | rfl | (simp [errW_none, errW_some] <;> rfl) | (simp [*, errW_none, errW_some] <;> rfl), by repeat (first | (with_reducible first | exact HB.out | apply below_alloc | apply pw_below_drewN | apply below_drew1 | refine below_set ?_ GE164.out) | exact HB.out)⟩
    · rw [if_neg c3] at H
      have c3b0 : decide (a0_0 ≤ 65536) = false := decide_eq_false c3
      clear c3
      obtain rfl := Option.some.inj H
      go_enter Tryd.func14, Tryd.ntmps14
      go_wp2_with (first | ((with_reducible refine gate_dst (N := 1) rfl ?_); refine box_event ?hg (N := 1) ?hd (cs := #[.int .i64 a0_0, .int .i64 a0_1, .int .i64 a0_2]) (t := 23) ?hr ?_; (case hd => rfl); (case hg => rfl); (case hr => first | (go_simp; done) | (go_simp; rfl)); intro gb164 hg w15 hbox hb; have n0_ := Aside0.mk (below_step (by repeat (first | (with_reducible first | exact HB.out | apply below_alloc | apply pw_below_drewN | apply below_drew1) | exact HB.out)) hb); have n1_ := Aside0.mk (hbox); have n2_ := Aside0.mk ((by rw [hg]; exact (below_size (by repeat (first | (with_reducible first | exact HB.out | apply below_alloc | apply pw_below_drewN | apply below_drew1) | exact HB.out))) : w.heap.size ≤ gb164)); have n3_ := Aside0.mk ((by rw [hg]; exact (below_size (by repeat (first | (with_reducible first | exact HB.out | apply below_alloc | apply pw_below_drewN | apply below_drew1) | exact HB.out))) : w.heap.size ≤ gb164)); clear HB; have HB := n0_; have BK164 := n1_; have GW164 := n2_; have GE164 := n3_; clear n0_ n1_ n2_ n3_; clear hb hbox hg; have hcz16_0 : w15.cell? ⟨gb164, 0, none⟩ = some (.int .i64 a0_0) := (blk_cell BK164.out 0).trans rfl; have hcz16_1 : w15.cell? ⟨gb164, 1, none⟩ = some (.int .i64 a0_1) := (blk_cell BK164.out 1).trans rfl; have hcz16_2 : w15.cell? ⟨gb164, 2, none⟩ = some (.int .i64 a0_2) := (blk_cell BK164.out 2).trans rfl; have hfz16_0 := blk_frozen BK164.out 0; have hfz16_1 := blk_frozen BK164.out 1; have hfz16_2 := blk_frozen BK164.out 2))
      go_ret
      exact ⟨by first | rfl | (simp [errW_none, errW_some] <;> rfl) | (simp [*, errW_none, errW_some] <;> rfl), by repeat (first | (with_reducible first | exact HB.out | apply below_alloc | apply pw_below_drewN | apply below_drew1 | refine below_set ?_ GE164.out) | exact HB.out)⟩
  · rw [if_neg c2] at H
    have c2b0 : decide (0 ≤ a0_0) = false := decide_eq_false c2
    clear c2
    obtain rfl := Option.some.inj H
    go_enter Tryd.func14, Tryd.ntmps14
    go_wp2_with (first | ((with_reducible refine gate_dst (N := 1) rfl ?_); refine box_event ?hg (N := 1) ?hd (cs := #[.int .i64 a0_0, .int .i64 a0_1, .int .i64 a0_2]) (t := 23) ?hr ?_; (case hd => rfl); (case hg => rfl); (case hr => first | (go_simp; done) | (go_simp; rfl)); intro gb164 hg w17 hbox hb; have n0_ := Aside0.mk (below_step (by repeat (first | (with_reducible first | exact HB.out | apply below_alloc | apply pw_below_drewN | apply below_drew1) | exact HB.out)) hb); have n1_ := Aside0.mk (hbox); have n2_ := Aside0.mk ((by rw [hg]; exact (below_size (by repeat (first | (with_reducible first | exact HB.out | apply below_alloc | apply pw_below_drewN | apply below_drew1) | exact HB.out))) : w.heap.size ≤ gb164)); have n3_ := Aside0.mk ((by rw [hg]; exact (below_size (by repeat (first | (with_reducible first | exact HB.out | apply below_alloc | apply pw_below_drewN | apply below_drew1) | exact HB.out))) : w.heap.size ≤ gb164)); clear HB; have HB := n0_; have BK164 := n1_; have GW164 := n2_; have GE164 := n3_; clear n0_ n1_ n2_ n3_; clear hb hbox hg; have hcz18_0 : w17.cell? ⟨gb164, 0, none⟩ = some (.int .i64 a0_0) := (blk_cell BK164.out 0).trans rfl; have hcz18_1 : w17.cell? ⟨gb164, 1, none⟩ = some (.int .i64 a0_1) := (blk_cell BK164.out 1).trans rfl; have hcz18_2 : w17.cell? ⟨gb164, 2, none⟩ = some (.int .i64 a0_2) := (blk_cell BK164.out 2).trans rfl; have hfz18_0 := blk_frozen BK164.out 0; have hfz18_1 := blk_frozen BK164.out 1; have hfz18_2 := blk_frozen BK164.out 2))
    go_ret
    exact ⟨by first | rfl | (simp [errW_none, errW_some] <;> rfl) | (simp [*, errW_none, errW_some] <;> rfl), by repeat (first | (with_reducible first | exact HB.out | apply below_alloc | apply pw_below_drewN | apply below_drew1 | refine below_set ?_ GE164.out) | exact HB.out)⟩
end Go.Proofs.YtmmbpbgcobmifaaDoor.Pr
end
section
namespace Go.Proofs.YtmmbpbgcobmifaaDoor.Pr
end Go.Proofs.YtmmbpbgcobmifaaDoor.Pr
namespace Go.Proofs.YtmmbpbgcobmifaaDoorH
open Go.RowKit Go.Proofs.YtmmbpbgcobmifaaDoorW.PrintWords Go.Proofs.YtmmbpbgcobmifaaDoorW.PrintLast Go.Proofs.YtmmbpbgcobmifaaDoorW.PrintMore Go.Proofs.YtmmbpbgcobmifaaDoor.Pr Go.Proofs.YtmmbpbgcobmifaaDoorM
theorem rd_sameM (l : List Int) (i : Nat) : rd l (i : Int) = l.getD i 0 := by
  unfold rd
  rw [Int.toNat_natCast]
theorem SameM_l0 (l0 l1 : List Int) (he : l0.length = l1.length) (hl : l0.length ≤ 1000000) : ∀ (d i k : Nat), l0.length - i = d → i ≤ l0.length → d < k → catchpitref03_Same.l0 k l0 l1 (i : Int) = some (decide (l0.drop i = l1.drop i))
  | 0, i, k, h1, h2, h3 => by
    obtain ⟨k, rfl⟩ : ∃ m, k = m + 1 := ⟨k - 1, by omega⟩
    rw [catchpitref03_Same.l0, if_neg (by omega), List.drop_eq_nil_of_le (by omega), List.drop_eq_nil_of_le (by omega)]
    rfl
  | d + 1, i, k, h1, h2, h3 => by
    obtain ⟨k, rfl⟩ : ∃ m, k = m + 1 := ⟨k - 1, by omega⟩
    have hw : wrap64 ((i : Int) + 1) = ((i + 1 : Nat) : Int) := by unfold wrap64; omega
    have e0 : l0.drop i = l0.getD i 0 :: l0.drop (i + 1) := by
      rw [List.getD_eq_getElem?_getD, List.getElem?_eq_getElem (by omega)]
      exact List.drop_eq_getElem_cons (by omega)
    have e1 : l1.drop i = l1.getD i 0 :: l1.drop (i + 1) := by
      rw [List.getD_eq_getElem?_getD, List.getElem?_eq_getElem (by omega)]
      exact List.drop_eq_getElem_cons (by omega)
    rw [catchpitref03_Same.l0, if_pos (by omega), if_pos (by omega), if_pos (by omega), rd_sameM, rd_sameM, hw, e0, e1]
    by_cases h : l0.getD i 0 = l1.getD i 0
    · rw [if_pos h, SameM_l0 l0 l1 he hl d (i + 1) k (by omega) (by omega) (by omega), h]
      simp
    · rw [if_neg h, decide_eq_false (fun e => h (List.cons.inj e).1)]
theorem SameM_eq (l0 l1 : List Int) (hl : l0.length ≤ 1000000) (k : Nat) (hk : l0.length < k) : catchpitref03_Same.f k l0 l1 = some (decide (l0 = l1)) := by
  unfold catchpitref03_Same.f
  by_cases he : l0.length = l1.length
  · rw [if_pos (by omega)]
    have := SameM_l0 l0 l1 he hl l0.length 0 k (by omega) (by omega) hk
    rwa [List.drop_zero, List.drop_zero] at this
  · rw [if_neg (by omega), decide_eq_false (fun e => he (by rw [e]))]
theorem Same8_eq (l0 l1 : List Int) (hl : l0.length ≤ 1000000) (k : Nat) (hk : l0.length < k) : catchpitref08_Same.f k l0 l1 = some (decide (l0 = l1)) := by
  unfold catchpitref08_Same.f
  rw [SameM_eq l0 l1 hl k hk]
  rfl
theorem FieldsM_l0 (a : List Fld) (hc : a.length ≤ 1000000) : ∀ d i k : Nat, i ≤ a.length → a.length - i = d → d < k → catchpitref05_Fields.l0 k a a (i : Int) = some true := by
  intro d
  induction d with
  | zero =>
    intro i k h1 h2 h3
    obtain ⟨k, rfl⟩ : ∃ m, k = m + 1 := ⟨k - 1, by omega⟩
    rw [catchpitref05_Fields.l0, if_neg (by omega)]
  | succ d ih =>
    intro i k h1 h2 h3
    obtain ⟨k, rfl⟩ : ∃ m, k = m + 1 := ⟨k - 1, by omega⟩
    rw [catchpitref05_Fields.l0, if_pos (by omega), if_pos (by omega), if_pos (by omega), if_neg (by simp), show wrap64 ((i : Int) + 1) = ((i + 1 : Nat) : Int) by unfold wrap64; omega]
    exact ih (i + 1) k (by omega) (by omega) (by omega)
theorem FieldsM_eq (a : List Fld) (hc : a.length ≤ 1000000) (k : Nat) (hk : a.length < k) : catchpitref05_Fields.f k a a = some true := by
  rw [catchpitref05_Fields.f, if_pos rfl]
  exact FieldsM_l0 a hc a.length 0 k (Nat.zero_le _) (by omega) hk
theorem FieldsM_nil (a : List Fld) (k : Nat) : catchpitref05_Fields.f (k + 1) a [] = some (decide (a = [])) := by
  cases a with
  | nil =>
    rw [FieldsM_eq [] (by simp) (k + 1) (by simp)]
    rfl
  | cons x a =>
    rw [catchpitref05_Fields.f, if_neg (by simp; omega)]
    rfl
theorem sameB_refl (D : List Int) (F : List Fld) (z : Int) (hD : D.length ≤ 1000000) (hF : F.length ≤ 1000000) : catchpitlaw08_same.f 1000001 D F z D F z = some true := by
  unfold catchpitlaw08_same.f
  rw [Same8_eq D D hD _ (by omega)]
  simp only [Option.bind_some, decide_true, if_true]
  rw [FieldsM_eq F hF _ (by omega)]
  simp
theorem Right8_eq (a b c : Int) : catchpitref08_Right.f a b c = some (rightL a b c) := by
  unfold catchpitref08_Right.f rightL
  by_cases h1 : a ≥ 0
  · by_cases h2 : a ≤ 65536
    · by_cases h3 : b ≥ 0
      · by_cases h4 : b ≤ 65536
        · by_cases h5 : c ≥ 0
          · simp [h1, h2, h3, h4, h5]
          · simp [h1, h2, h3, h4, h5]
        · simp [h1, h2, h3, h4]
      · simp [h1, h2, h3]
    · simp [h1, h2]
  · simp [h1]
theorem run_dataLen {E : MEnv Fld} : ∀ (r : List Int) (i : Nat) (X : MSt Fld), (mrun E X r i).1.data.length ≤ X.data.length + r.length ∧ (mrun E X r i).1.fields.length ≤ X.fields.length + r.length
  | [], i, X => by simp [mrun]
  | c :: r, i, X => by
    have hline : ∀ (Y x : MSt Fld), mline E Y c = .ok x → x.data.length ≤ Y.data.length + 1 ∧ x.fields.length ≤ Y.fields.length + 1 := by
      intro Y x h
      unfold mline at h
      split at h
      · cases h
      · split at h <;> cases h <;> simp
    have hstep : ∀ (x : MSt Fld), mstep E X c = .ok x → x.data.length ≤ X.data.length + 1 ∧ x.fields.length ≤ X.fields.length + 1 := by
      intro x h
      unfold mstep at h
      repeat' split at h
      all_goals first
        | (cases h; simp; done)
        | (have := hline _ _ h; simpa using this)
        | cases h
    cases h : mstep E X c with
    | error e => rw [run_err h]; simp only [List.length_cons]; omega
    | ok x =>
      have := hstep x h
      by_cases hp : x.place = 11
      · rw [run_fin h hp]; simp only [List.length_cons]; omega
      · rw [run_on h hp]
        have := run_dataLen (E := E) r (i + 1) x
        simp only [List.length_cons]; omega
end Go.Proofs.YtmmbpbgcobmifaaDoorH
end
section
namespace Go.Proofs.YtmmbpbgcobmifaaDoor.Pr
open Go.RowKit Go.Proofs.YtmmbpbgcobmifaaDoorH Go.Proofs.YtmmbpbgcobmifaaDoorW.PrintWords Go.Proofs.YtmmbpbgcobmifaaDoorW.PrintLast Go.Proofs.YtmmbpbgcobmifaaDoorW.PrintMore
attribute [local go_sem] max2_int min2_int max_two min_two max_three min_three max_four min_four   -- for this text's walks alone
set_option linter.unusedVariables false
set_option linter.unusedSimpArgs false
def catchpitref01_Put.f : Nat → Int → Option (ByteArray)
  | 0, _ => none
  | k + 1, a0 => if a0 < 16 then (if 0 ≤ (wrap64 (Int.tmod a0 16)) then (if (wrap64 (Int.tmod a0 16)) ≤ (wrap64 ((wrap64 (Int.tmod a0 16)) + 1)) then (if (wrap64 ((wrap64 (Int.tmod a0 16)) + 1)) ≤ 16 then (some ((⟨#[48, 49, 50, 51, 52, 53, 54, 55, 56, 57, 97, 98, 99, 100, 101, 102]⟩ : ByteArray).extract ((wrap64 (Int.tmod a0 16)) : Int).toNat ((wrap64 ((wrap64 (Int.tmod a0 16)) + 1)) : Int).toNat)) else (none)) else (none)) else (none)) else ((catchpitref01_Put.f k (IntKind.u64.wrap (Int.tdiv a0 16))).bind fun t143 => (if 0 ≤ (wrap64 (Int.tmod a0 16)) then (if (wrap64 (Int.tmod a0 16)) ≤ (wrap64 ((wrap64 (Int.tmod a0 16)) + 1)) then (if (wrap64 ((wrap64 (Int.tmod a0 16)) + 1)) ≤ 16 then (if t143.size + ((⟨#[48, 49, 50, 51, 52, 53, 54, 55, 56, 57, 97, 98, 99, 100, 101, 102]⟩ : ByteArray).extract ((wrap64 (Int.tmod a0 16)) : Int).toNat ((wrap64 ((wrap64 (Int.tmod a0 16)) + 1)) : Int).toNat).size ≤ 9223372036854775807 then (some (t143 ++ ((⟨#[48, 49, 50, 51, 52, 53, 54, 55, 56, 57, 97, 98, 99, 100, 101, 102]⟩ : ByteArray).extract ((wrap64 (Int.tmod a0 16)) : Int).toNat ((wrap64 ((wrap64 (Int.tmod a0 16)) + 1)) : Int).toNat))) else (none)) else (none)) else (none)) else (none)))
theorem catchpitref01_Put.mono_l : ∀ k, (∀ y0, LeO (catchpitref01_Put.f k y0) (catchpitref01_Put.f (k + 1) y0))
  | 0 => fun _ r h => by simp [catchpitref01_Put.f] at h
  | k + 1 => by
    have ih0 := catchpitref01_Put.mono_l k
    · intro y0
      unfold catchpitref01_Put.f
      repeat' first
      | (with_reducible exact ih0 _)
      | (with_reducible exact LeO.refl _)
      | (with_reducible exact LeO.none _)
      | (with_reducible refine LeO.ite ?_ ?_)
      | (with_reducible refine LeO.bind ?_ (fun _ => ?_))
      | exact ih0 _
      | exact LeO.none _
      | refine LeO.ite ?_ ?_
      | refine LeO.bind ?_ (fun _ => ?_)
theorem catchpitref01_Put.mono : ∀ a0 k, LeO (catchpitref01_Put.f k a0) (catchpitref01_Put.f (k + 1) a0) := by
  intro a0 k
  have ih0 := catchpitref01_Put.mono_l k
  exact ih0 a0
def catchpitref01_Put.B5 : List Nat := [0, 1, 3, 0, 0, 0, 32, 120, 255, 511]
end Go.Proofs.YtmmbpbgcobmifaaDoor.Pr
end
section
namespace Go.Proofs.YtmmbpbgcobmifaaDoor.Pr
end Go.Proofs.YtmmbpbgcobmifaaDoor.Pr
namespace Go.Proofs.YtmmbpbgcobmifaaDoorH
open Go.RowKit Go.Proofs.YtmmbpbgcobmifaaDoorW.PrintWords Go.Proofs.YtmmbpbgcobmifaaDoorW.PrintLast Go.Proofs.YtmmbpbgcobmifaaDoorW.PrintMore Go.Proofs.YtmmbpbgcobmifaaDoor.Pr
theorem strOfNums_append (a b : List Int) : strOfNums (a ++ b) = strOfNums a ++ strOfNums b := by
  apply ByteArray.ext
  apply Array.toList_inj.1
  show _ = (strOfNums a).data.toList ++ (strOfNums b).data.toList
  rw [strOfNums_data, strOfNums_data, strOfNums_data, List.map_append]
end Go.Proofs.YtmmbpbgcobmifaaDoorH
end
section
namespace Go.Proofs.YtmmbpbgcobmifaaDoor.Pr
open Go.RowKit Go.Proofs.YtmmbpbgcobmifaaDoorH Go.Proofs.YtmmbpbgcobmifaaDoorW.PrintWords Go.Proofs.YtmmbpbgcobmifaaDoorW.PrintLast Go.Proofs.YtmmbpbgcobmifaaDoorW.PrintMore
attribute [local go_sem] max2_int min2_int max_two min_two max_three min_three max_four min_four   -- for this text's walks alone
set_option linter.unusedVariables false
set_option linter.unusedSimpArgs false
def catchpitref01_Digit.l0 : Nat → Int → ByteArray → ByteArray → Int → Option (Int)
  | 0, _, _, _, _ => none
  | k + 1, x0, x3, x4, x5 => if x5 < 16 then (if 0 ≤ x5 then (if x5 < (x3.size : Int) then (if (bt x3 x5) = x0 then (some x5) else (if x5 < (x4.size : Int) then (if (bt x4 x5) = x0 then (some x5) else (catchpitref01_Digit.l0 k x0 x3 x4 (wrap64 (x5 + 1)))) else (none))) else (none)) else (none)) else (some (-1))
def catchpitref01_Digit.f (k : Nat) (a0 : Int) : Option (Int) := catchpitref01_Digit.l0 k a0 (⟨#[48, 49, 50, 51, 52, 53, 54, 55, 56, 57, 97, 98, 99, 100, 101, 102]⟩ : ByteArray) (⟨#[48, 49, 50, 51, 52, 53, 54, 55, 56, 57, 65, 66, 67, 68, 69, 70]⟩ : ByteArray) 0
theorem catchpitref01_Digit.mono_l : ∀ k, (∀ y0 y1 y2 y3, LeO (catchpitref01_Digit.l0 k y0 y1 y2 y3) (catchpitref01_Digit.l0 (k + 1) y0 y1 y2 y3))
  | 0 => fun _ _ _ _ r h => by simp [catchpitref01_Digit.l0] at h
  | k + 1 => by
    have ih0 := catchpitref01_Digit.mono_l k
    · intro y0 y1 y2 y3
      unfold catchpitref01_Digit.l0
      repeat' first
      | (with_reducible exact ih0 _ _ _ _)
      | (with_reducible exact LeO.refl _)
      | (with_reducible exact LeO.none _)
      | (with_reducible refine LeO.ite ?_ ?_)
      | (with_reducible refine LeO.bind ?_ (fun _ => ?_))
      | exact ih0 _ _ _ _
      | exact LeO.none _
      | refine LeO.ite ?_ ?_
      | refine LeO.bind ?_ (fun _ => ?_)
theorem catchpitref01_Digit.mono : ∀ a0 k, LeO (catchpitref01_Digit.f k a0) (catchpitref01_Digit.f (k + 1) a0) := by
  intro a0 k
  have ih0 := catchpitref01_Digit.mono_l k
  unfold catchpitref01_Digit.f
  repeat' first
      | (with_reducible exact ih0 _ _ _ _)
      | (with_reducible exact LeO.refl _)
      | (with_reducible exact LeO.none _)
      | (with_reducible refine LeO.ite ?_ ?_)
      | (with_reducible refine LeO.bind ?_ (fun _ => ?_))
      | exact ih0 _ _ _ _
      | exact LeO.none _
      | refine LeO.ite ?_ ?_
      | refine LeO.bind ?_ (fun _ => ?_)
set_option maxHeartbeats 8000000 in
set_option maxRecDepth 100000 in
theorem catchpitref01_Digit.calls (k : Nat) (a0 : Int) (r : Int) (w : World) (hG : TabOk w) (h : catchpitref01_Digit.f k a0 = some r) :
    Calls Tryd.prog 64 #[.int .u8 a0] w fun e w' => e = .returned (.int .i64 r) ∧ Drawn0 w w' := by
  have H : (catchpitref01_Digit.l0 k a0 (⟨#[48, 49, 50, 51, 52, 53, 54, 55, 56, 57, 97, 98, 99, 100, 101, 102]⟩ : ByteArray) (⟨#[48, 49, 50, 51, 52, 53, 54, 55, 56, 57, 65, 66, 67, 68, 69, 70]⟩ : ByteArray) 0) = some r := h
  clear h
  have H' := Aside0.mk H
  clear H
  go_enter Tryd.func64, Tryd.ntmps64
  go_wp2
  go_loopg [5] k (fun kq v5 w' => ∃ (x5_1 : Int), v5 = .int .i64 x5_1 ∧ Aside0 (catchpitref01_Digit.l0 kq a0 (⟨#[48, 49, 50, 51, 52, 53, 54, 55, 56, 57, 97, 98, 99, 100, 101, 102]⟩ : ByteArray) (⟨#[48, 49, 50, 51, 52, 53, 54, 55, 56, 57, 65, 66, 67, 68, 69, 70]⟩ : ByteArray) x5_1 = some r) ∧ Aside0 (kq ≤ k) ∧ Drawn0 w w')
  case atStart => exact ⟨(0), (by first | rfl | (simp; done) | (simp [*]; done)), H', ⟨Nat.le_refl _⟩, by repeat (first | exact Drawn0.refl _ | apply Drawn0.step)⟩
  case round =>
    clear H'
    obtain ⟨x5_1, rfl, HA, HK1, ⟨m1, rfl⟩⟩ := hrel
    cases gk with
    | zero => exact absurd HA.out (by simp [catchpitref01_Digit.l0])
    | succ k1 =>
      have H := HA.out
      clear HA
      simp only [catchpitref01_Digit.l0] at H
      by_cases c2 : x5_1 < 16
      · rw [if_pos c2] at H
        have c2b0 : decide (x5_1 < 16) = true := decide_eq_true c2
        clear c2
        by_cases c3 : 0 ≤ x5_1
        · rw [if_pos c3] at H
          have c3b0 : decide (0 ≤ x5_1) = true := decide_eq_true c3
          clear c3
          by_cases c4 : x5_1 < ((⟨#[48, 49, 50, 51, 52, 53, 54, 55, 56, 57, 97, 98, 99, 100, 101, 102]⟩ : ByteArray).size : Int)
          · rw [if_pos c4] at H
            have c4b0 : decide (x5_1 < ((⟨#[48, 49, 50, 51, 52, 53, 54, 55, 56, 57, 97, 98, 99, 100, 101, 102]⟩ : ByteArray).size : Int)) = true := decide_eq_true c4
            clear c4
            by_cases c6 : (bt (⟨#[48, 49, 50, 51, 52, 53, 54, 55, 56, 57, 97, 98, 99, 100, 101, 102]⟩ : ByteArray) x5_1) = a0
            · rw [if_pos c6] at H
              have c6b0 : ((bt (⟨#[48, 49, 50, 51, 52, 53, 54, 55, 56, 57, 97, 98, 99, 100, 101, 102]⟩ : ByteArray) x5_1) == a0) = true := beq_iff_eq.mpr c6
              have c6b1 : ((bt (⟨#[48, 49, 50, 51, 52, 53, 54, 55, 56, 57, 97, 98, 99, 100, 101, 102]⟩ : ByteArray) x5_1) != a0) = false := bne_eq_false_iff_eq.mpr c6
              clear c6
              obtain rfl := Option.some.inj H
              have p5 : 0 ≤ (x5_1 : Int) := of_decide_eq_true (by first | (with_reducible assumption) | assumption)
              have q5 : x5_1 < (16 : Int) := of_decide_eq_true (by first | (with_reducible assumption) | assumption)
              have hx5 := bt_at (⟨#[48, 49, 50, 51, 52, 53, 54, 55, 56, 57, 97, 98, 99, 100, 101, 102]⟩ : ByteArray) x5_1
              replace p5 := eq_true p5
              replace q5 := eq_true q5
              go_wp2
              go_ret
              exact ⟨by first | rfl | (simp; done) | (simp [*]; done), by repeat (first | exact Drawn0.refl _ | apply Drawn0.step)⟩
            · rw [if_neg c6] at H
              have c6b0 : ((bt (⟨#[48, 49, 50, 51, 52, 53, 54, 55, 56, 57, 97, 98, 99, 100, 101, 102]⟩ : ByteArray) x5_1) == a0) = false := beq_eq_false_iff_ne.mpr c6
              have c6b1 : ((bt (⟨#[48, 49, 50, 51, 52, 53, 54, 55, 56, 57, 97, 98, 99, 100, 101, 102]⟩ : ByteArray) x5_1) != a0) = true := bne_iff_ne.mpr c6
              by_cases c7 : x5_1 < ((⟨#[48, 49, 50, 51, 52, 53, 54, 55, 56, 57, 65, 66, 67, 68, 69, 70]⟩ : ByteArray).size : Int)
              · rw [if_pos c7] at H
                have c7b0 : decide (x5_1 < ((⟨#[48, 49, 50, 51, 52, 53, 54, 55, 56, 57, 65, 66, 67, 68, 69, 70]⟩ : ByteArray).size : Int)) = true := decide_eq_true c7
                clear c7
                by_cases c9 : (bt (⟨#[48, 49, 50, 51, 52, 53, 54, 55, 56, 57, 65, 66, 67, 68, 69, 70]⟩ : ByteArray) x5_1) = a0
                · rw [if_pos c9] at H
                  have c9b0 : ((bt (⟨#[48, 49, 50, 51, 52, 53, 54, 55, 56, 57, 65, 66, 67, 68, 69, 70]⟩ : ByteArray) x5_1) == a0) = true := beq_iff_eq.mpr c9
                  have c9b1 : ((bt (⟨#[48, 49, 50, 51, 52, 53, 54, 55, 56, 57, 65, 66, 67, 68, 69, 70]⟩ : ByteArray) x5_1) != a0) = false := bne_eq_false_iff_eq.mpr c9
                  clear c9
                  obtain rfl := Option.some.inj H
                  have p5 : 0 ≤ (x5_1 : Int) := of_decide_eq_true (by first | (with_reducible assumption) | assumption)
                  have q5 : x5_1 < (16 : Int) := of_decide_eq_true (by first | (with_reducible assumption) | assumption)
                  have hx5 := bt_at (⟨#[48, 49, 50, 51, 52, 53, 54, 55, 56, 57, 97, 98, 99, 100, 101, 102]⟩ : ByteArray) x5_1
                  replace p5 := eq_true p5
                  replace q5 := eq_true q5
                  have p8 : 0 ≤ (x5_1 : Int) := of_decide_eq_true (by first | (with_reducible assumption) | assumption)
                  have q8 : x5_1 < (16 : Int) := of_decide_eq_true (by first | (with_reducible assumption) | assumption)
                  have hx8 := bt_at (⟨#[48, 49, 50, 51, 52, 53, 54, 55, 56, 57, 65, 66, 67, 68, 69, 70]⟩ : ByteArray) x5_1
                  replace p8 := eq_true p8
                  replace q8 := eq_true q8
                  go_wp2
                  go_ret
                  exact ⟨by first | rfl | (simp; done) | (simp [*]; done), by repeat (first | exact Drawn0.refl _ | apply Drawn0.step)⟩
                · rw [if_neg c9] at H
                  have c9b0 : ((bt (⟨#[48, 49, 50, 51, 52, 53, 54, 55, 56, 57, 65, 66, 67, 68, 69, 70]⟩ : ByteArray) x5_1) == a0) = false := beq_eq_false_iff_ne.mpr c9
                  have c9b1 : ((bt (⟨#[48, 49, 50, 51, 52, 53, 54, 55, 56, 57, 65, 66, 67, 68, 69, 70]⟩ : ByteArray) x5_1) != a0) = true := bne_iff_ne.mpr c9
                  have H' := Aside0.mk H
                  clear H
                  have p5 : 0 ≤ (x5_1 : Int) := of_decide_eq_true (by first | (with_reducible assumption) | assumption)
                  have q5 : x5_1 < (16 : Int) := of_decide_eq_true (by first | (with_reducible assumption) | assumption)
                  have hx5 := bt_at (⟨#[48, 49, 50, 51, 52, 53, 54, 55, 56, 57, 97, 98, 99, 100, 101, 102]⟩ : ByteArray) x5_1
                  replace p5 := eq_true p5
                  replace q5 := eq_true q5
                  have p8 : 0 ≤ (x5_1 : Int) := of_decide_eq_true (by first | (with_reducible assumption) | assumption)
                  have q8 : x5_1 < (16 : Int) := of_decide_eq_true (by first | (with_reducible assumption) | assumption)
                  have hx8 := bt_at (⟨#[48, 49, 50, 51, 52, 53, 54, 55, 56, 57, 65, 66, 67, 68, 69, 70]⟩ : ByteArray) x5_1
                  replace p8 := eq_true p8
                  replace q8 := eq_true q8
                  go_wp2
                  go_roundg k1
                  case measure => have := HK1.out; omega
                  case rel => exact ⟨(wrap64 (x5_1 + 1)), (by first | rfl | (simp; done) | (simp [*]; done)), H', ⟨by have := HK1.out; omega⟩, by repeat (first | exact Drawn0.refl _ | apply Drawn0.step)⟩
              · rw [if_neg c7] at H
                exact absurd H (by simp)
          · rw [if_neg c4] at H
            exact absurd H (by simp)
        · rw [if_neg c3] at H
          exact absurd H (by simp)
      · rw [if_neg c2] at H
        have c2b0 : decide (x5_1 < 16) = false := decide_eq_false c2
        clear c2
        obtain rfl := Option.some.inj H
        go_wp2
        go_ret
        exact ⟨by first | rfl | (simp; done) | (simp [*]; done), by repeat (first | exact Drawn0.refl _ | apply Drawn0.step)⟩
end Go.Proofs.YtmmbpbgcobmifaaDoor.Pr
end
section
namespace Go.Proofs.YtmmbpbgcobmifaaDoor.Pr
end Go.Proofs.YtmmbpbgcobmifaaDoor.Pr
namespace Go.Proofs.YtmmbpbgcobmifaaDoorH
set_option linter.unusedVariables false
set_option linter.unusedSimpArgs false
open Go Go.RowKit Go.Proofs.YtmmbpbgcobmifaaDoorW.PrintWords Go.Proofs.YtmmbpbgcobmifaaDoorW.PrintLast Go.Proofs.YtmmbpbgcobmifaaDoorW.PrintMore Go.Proofs.YtmmbpbgcobmifaaDoor.Pr Go.Proofs.YtmmbpbgcobmifaaDoorM
abbrev stV (p n co li sz : Int) (tx : ByteArray) (dv fv : Value) : Value := .agg #[.int .i64 p, .int .u64 n, .int .i64 co, .int .i64 li, .int .i64 sz, .string tx, dv, fv]
theorem blk3 (w : World) (a b : Obj) (cs : Array Value) (t : TypeId) : (((w.alloc a).alloc b).alloc (.cells cs t)).heap[w.heap.size + 1 + 1]? = some (.cells cs t (0, 0)) := by
  have := World.alloc_heap_new ((w.alloc a).alloc b) (.cells cs t)
  rwa [World.size_alloc, World.size_alloc] at this
theorem below3 {w w2 : World} (h : Below w.heap.size w w2) (a b c : Obj) : Below w.heap.size w (((w2.alloc a).alloc b).alloc c) := below_alloc (below_alloc (below_alloc h a) b) c
theorem drawn3 {w w4 : World} {a b c : Obj} (h : Drawn0 (((w.alloc a).alloc b).alloc c) w4) : ∃ w2, w4 = (((w2.alloc a).alloc b).alloc c) ∧ w2.heap.size = w.heap.size ∧ Below w.heap.size w w2 := by
  obtain ⟨n, rfl⟩ := h.out
  exact ⟨w.drewN n, rfl, rfl, pw_below_drewN (Below.refl _ _) n⟩
set_option maxHeartbeats 4000000 in
set_option maxRecDepth 100000 in
theorem st8_0a (n li sz : Int) (tx : ByteArray) (A0 A1 : Option Addr) (n0 n1 k0 k1 : Nat) (c l0 l1 l2 : Int) (w : World) (hG : TabOk w) (k : Nat) (dg : Int) (hdig : catchpitref01_Digit.f k c = some dg) (h0 : 0 ≤ dg) :
    Calls Tryd.prog 40 #[stV 0 n 16 li sz tx (.slice A0 n0 k0) (.slice A1 n1 k1), .int .u8 c, .agg #[.int .i64 l0, .int .i64 l1, .int .i64 l2]] w fun e w' => e = .returned (.tuple #[stV 0 n 16 li sz tx (.slice A0 n0 k0) (.slice A1 n1 k1), .int .i64 3]) ∧ Below w.heap.size w w' := by
  have HC_Dig := Aside0.mk (fun (W : World) (h : Below w.heap.size w W) => catchpitref01_Digit.calls k c dg W (hG.below h) hdig)
  clear hG
  go_enter Tryd.func40, Tryd.ntmps40
  go_wp2_with fail
  refine (HC_Dig.out _ (below3 (Below.refl _ _) _ _ _)).mono ?_
  rintro e w4 ⟨rfl, hd4⟩
  obtain ⟨w2, rfl, hs2, hb2⟩ := drawn3 hd4
  clear hd4
  go_wp2
  refine bodyPost_ret (results_ct rfl _ _ (w.heap.size + 1 + 1) 39 _ (0, 0) _ (by rfl) (by rw [← hs2]; exact blk3 w2 _ _ _ _) Tryd.underlying39 rfl (by kernel_rfl)) rfl ⟨rfl, below3 hb2 _ _ _⟩
set_option maxHeartbeats 4000000 in
set_option maxRecDepth 100000 in
theorem st8_0d (n li sz : Int) (tx : ByteArray) (A0 A1 : Option Addr) (n0 n1 k0 k1 : Nat) (c l0 l1 l2 : Int) (w : World) (hG : TabOk w) (k : Nat) (dg : Int) (hdig : catchpitref01_Digit.f k c = some dg) (h0 : ¬ 0 ≤ dg) :
    Calls Tryd.prog 40 #[stV 0 n 0 li sz tx (.slice A0 n0 k0) (.slice A1 n1 k1), .int .u8 c, .agg #[.int .i64 l0, .int .i64 l1, .int .i64 l2]] w fun e w' => e = .returned (.tuple #[stV 0 n 0 li sz tx (.slice A0 n0 k0) (.slice A1 n1 k1), .int .i64 2]) ∧ Below w.heap.size w w' := by
  have HC_Dig := Aside0.mk (fun (W : World) (h : Below w.heap.size w W) => catchpitref01_Digit.calls k c dg W (hG.below h) hdig)
  clear hG
  go_enter Tryd.func40, Tryd.ntmps40
  go_wp2_with fail
  refine (HC_Dig.out _ (below3 (Below.refl _ _) _ _ _)).mono ?_
  rintro e w4 ⟨rfl, hd4⟩
  obtain ⟨w2, rfl, hs2, hb2⟩ := drawn3 hd4
  clear hd4
  go_wp2
  refine bodyPost_ret (results_ct rfl _ _ (w.heap.size + 1 + 1) 39 _ (0, 0) _ (by rfl) (by rw [← hs2]; exact blk3 w2 _ _ _ _) Tryd.underlying39 rfl (by kernel_rfl)) rfl ⟨rfl, below3 hb2 _ _ _⟩
set_option maxHeartbeats 4000000 in
set_option maxRecDepth 100000 in
theorem st8_0e (n co li sz : Int) (tx : ByteArray) (A0 A1 : Option Addr) (n0 n1 k0 k1 : Nat) (c l0 l1 l2 : Int) (w : World) (hG : TabOk w) (k : Nat) (dg : Int) (hdig : catchpitref01_Digit.f k c = some dg) (h0 : ¬ 0 ≤ dg) (hco : (co == 0) = false) (h1 : (c != 59) = true) (h2 : (c != 13) = true) :
    Calls Tryd.prog 40 #[stV 0 n co li sz tx (.slice A0 n0 k0) (.slice A1 n1 k1), .int .u8 c, .agg #[.int .i64 l0, .int .i64 l1, .int .i64 l2]] w fun e w' => e = .returned (.tuple #[stV 0 n co li sz tx (.slice A0 n0 k0) (.slice A1 n1 k1), .int .i64 2]) ∧ Below w.heap.size w w' := by
  have HC_Dig := Aside0.mk (fun (W : World) (h : Below w.heap.size w W) => catchpitref01_Digit.calls k c dg W (hG.below h) hdig)
  clear hG
  go_enter Tryd.func40, Tryd.ntmps40
  go_wp2_with fail
  refine (HC_Dig.out _ (below3 (Below.refl _ _) _ _ _)).mono ?_
  rintro e w4 ⟨rfl, hd4⟩
  obtain ⟨w2, rfl, hs2, hb2⟩ := drawn3 hd4
  clear hd4
  go_wp2
  refine bodyPost_ret (results_ct rfl _ _ (w.heap.size + 1 + 1) 39 _ (0, 0) _ (by rfl) (by rw [← hs2]; exact blk3 w2 _ _ _ _) Tryd.underlying39 rfl (by kernel_rfl)) rfl ⟨rfl, below3 hb2 _ _ _⟩
set_option maxHeartbeats 4000000 in
set_option maxRecDepth 100000 in
theorem st8_0f (n co li sz : Int) (tx : ByteArray) (A0 A1 : Option Addr) (n0 n1 k0 k1 : Nat) (c l0 l1 l2 : Int) (w : World) (hG : TabOk w) (k : Nat) (dg : Int) (hdig : catchpitref01_Digit.f k c = some dg) (h0 : ¬ 0 ≤ dg) (hco : (co == 0) = false) (h1 : (c != 59) = true) (h2 : (c != 13) = false) (h3 : (c == 13) = true) :
    Calls Tryd.prog 40 #[stV 0 n co li sz tx (.slice A0 n0 k0) (.slice A1 n1 k1), .int .u8 c, .agg #[.int .i64 l0, .int .i64 l1, .int .i64 l2]] w fun e w' => e = .returned (.tuple #[stV 2 n co li sz tx (.slice A0 n0 k0) (.slice A1 n1 k1), .int .i64 0]) ∧ Below w.heap.size w w' := by
  have HC_Dig := Aside0.mk (fun (W : World) (h : Below w.heap.size w W) => catchpitref01_Digit.calls k c dg W (hG.below h) hdig)
  clear hG
  go_enter Tryd.func40, Tryd.ntmps40
  go_wp2_with fail
  refine (HC_Dig.out _ (below3 (Below.refl _ _) _ _ _)).mono ?_
  rintro e w4 ⟨rfl, hd4⟩
  obtain ⟨w2, rfl, hs2, hb2⟩ := drawn3 hd4
  clear hd4
  go_wp2
  refine bodyPost_ret (results_ct rfl _ _ (w.heap.size + 1 + 1) 39 _ (0, 0) _ (by rfl) (by rw [← hs2]; exact blk3 w2 _ _ _ _) Tryd.underlying39 rfl (by kernel_rfl)) rfl ⟨rfl, below3 hb2 _ _ _⟩
set_option maxHeartbeats 4000000 in
set_option maxRecDepth 100000 in
theorem st8_0g (n co li sz : Int) (tx : ByteArray) (A0 A1 : Option Addr) (n0 n1 k0 k1 : Nat) (c l0 l1 l2 : Int) (w : World) (hG : TabOk w) (k : Nat) (dg : Int) (hdig : catchpitref01_Digit.f k c = some dg) (h0 : ¬ 0 ≤ dg) (hco : (co == 0) = false) (h1 : (c != 59) = false) (h3 : (c == 13) = false) (h4 : l0 < 1) :
    Calls Tryd.prog 40 #[stV 0 n co li sz tx (.slice A0 n0 k0) (.slice A1 n1 k1), .int .u8 c, .agg #[.int .i64 l0, .int .i64 l1, .int .i64 l2]] w fun e w' => e = .returned (.tuple #[stV 0 n co li sz tx (.slice A0 n0 k0) (.slice A1 n1 k1), .int .i64 5]) ∧ Below w.heap.size w w' := by
  have HC_Dig := Aside0.mk (fun (W : World) (h : Below w.heap.size w W) => catchpitref01_Digit.calls k c dg W (hG.below h) hdig)
  clear hG
  go_enter Tryd.func40, Tryd.ntmps40
  go_wp2_with fail
  refine (HC_Dig.out _ (below3 (Below.refl _ _) _ _ _)).mono ?_
  rintro e w4 ⟨rfl, hd4⟩
  obtain ⟨w2, rfl, hs2, hb2⟩ := drawn3 hd4
  clear hd4
  go_wp2
  refine bodyPost_ret (results_ct rfl _ _ (w.heap.size + 1 + 1) 39 _ (0, 0) _ (by rfl) (by rw [← hs2]; exact blk3 w2 _ _ _ _) Tryd.underlying39 rfl (by kernel_rfl)) rfl ⟨rfl, below3 hb2 _ _ _⟩
set_option maxHeartbeats 4000000 in
set_option maxRecDepth 100000 in
theorem st8_0h (n co li sz : Int) (tx : ByteArray) (A0 A1 : Option Addr) (n0 n1 k0 k1 : Nat) (c l0 l1 l2 : Int) (w : World) (hG : TabOk w) (k : Nat) (dg : Int) (hdig : catchpitref01_Digit.f k c = some dg) (h0 : ¬ 0 ≤ dg) (hco : (co == 0) = false) (h1 : (c != 59) = false) (h3 : (c == 13) = false) (h4 : ¬ l0 < 1) :
    Calls Tryd.prog 40 #[stV 0 n co li sz tx (.slice A0 n0 k0) (.slice A1 n1 k1), .int .u8 c, .agg #[.int .i64 l0, .int .i64 l1, .int .i64 l2]] w fun e w' => e = .returned (.tuple #[stV 1 n 1 li sz tx (.slice A0 n0 k0) (.slice A1 n1 k1), .int .i64 0]) ∧ Below w.heap.size w w' := by
  have HC_Dig := Aside0.mk (fun (W : World) (h : Below w.heap.size w W) => catchpitref01_Digit.calls k c dg W (hG.below h) hdig)
  clear hG
  go_enter Tryd.func40, Tryd.ntmps40
  go_wp2_with fail
  refine (HC_Dig.out _ (below3 (Below.refl _ _) _ _ _)).mono ?_
  rintro e w4 ⟨rfl, hd4⟩
  obtain ⟨w2, rfl, hs2, hb2⟩ := drawn3 hd4
  clear hd4
  go_wp2
  refine bodyPost_ret (results_ct rfl _ _ (w.heap.size + 1 + 1) 39 _ (0, 0) _ (by rfl) (by rw [← hs2]; exact blk3 w2 _ _ _ _) Tryd.underlying39 rfl (by kernel_rfl)) rfl ⟨rfl, below3 hb2 _ _ _⟩
set_option maxHeartbeats 4000000 in
set_option maxRecDepth 100000 in
theorem st8_1a (n co li sz : Int) (tx : ByteArray) (A0 A1 : Option Addr) (n0 n1 k0 k1 : Nat) (c l0 l1 l2 : Int) (w : World) (hG : TabOk w) (h3 : (c == 13) = true) :
    Calls Tryd.prog 40 #[stV 1 n co li sz tx (.slice A0 n0 k0) (.slice A1 n1 k1), .int .u8 c, .agg #[.int .i64 l0, .int .i64 l1, .int .i64 l2]] w fun e w' => e = .returned (.tuple #[stV 2 n co li sz tx (.slice A0 n0 k0) (.slice A1 n1 k1), .int .i64 0]) ∧ Below w.heap.size w w' := by
  clear hG
  go_enter Tryd.func40, Tryd.ntmps40
  go_wp2
  refine bodyPost_ret (results_ct rfl _ _ (w.heap.size + 1 + 1) 39 _ (0, 0) _ (by rfl) (by exact blk3 w _ _ _ _) Tryd.underlying39 rfl (by kernel_rfl)) rfl ⟨rfl, below3 (Below.refl _ _) _ _ _⟩
set_option maxHeartbeats 4000000 in
set_option maxRecDepth 100000 in
theorem st8_1b (n co li sz : Int) (tx : ByteArray) (A0 A1 : Option Addr) (n0 n1 k0 k1 : Nat) (c l0 l1 l2 : Int) (w : World) (hG : TabOk w) (h3 : (c == 13) = false) (hbyt : catchpitref02_Byte.f c = some false) :
    Calls Tryd.prog 40 #[stV 1 n co li sz tx (.slice A0 n0 k0) (.slice A1 n1 k1), .int .u8 c, .agg #[.int .i64 l0, .int .i64 l1, .int .i64 l2]] w fun e w' => e = .returned (.tuple #[stV 1 n co li sz tx (.slice A0 n0 k0) (.slice A1 n1 k1), .int .i64 2]) ∧ Below w.heap.size w w' := by
  have HC_Byt := Aside0.mk (fun (W : World) (h : Below w.heap.size w W) => catchpitref02_Byte.calls c false W (hG.below h) hbyt)
  clear hG
  go_enter Tryd.func40, Tryd.ntmps40
  go_wp2_with fail
  refine (HC_Byt.out _ (below3 (Below.refl _ _) _ _ _)).mono ?_
  rintro e w4 ⟨rfl, hd4⟩
  obtain ⟨w2, rfl, hs2, hb2⟩ := drawn3 hd4
  clear hd4
  go_wp2
  refine bodyPost_ret (results_ct rfl _ _ (w.heap.size + 1 + 1) 39 _ (0, 0) _ (by rfl) (by rw [← hs2]; exact blk3 w2 _ _ _ _) Tryd.underlying39 rfl (by kernel_rfl)) rfl ⟨rfl, below3 hb2 _ _ _⟩
set_option maxHeartbeats 4000000 in
set_option maxRecDepth 100000 in
theorem st8_1c (n co li sz : Int) (tx : ByteArray) (A0 A1 : Option Addr) (n0 n1 k0 k1 : Nat) (c l0 l1 l2 : Int) (w : World) (hG : TabOk w) (h3 : (c == 13) = false) (hbyt : catchpitref02_Byte.f c = some true) (h4 : l0 ≤ co) :
    Calls Tryd.prog 40 #[stV 1 n co li sz tx (.slice A0 n0 k0) (.slice A1 n1 k1), .int .u8 c, .agg #[.int .i64 l0, .int .i64 l1, .int .i64 l2]] w fun e w' => e = .returned (.tuple #[stV 1 n co li sz tx (.slice A0 n0 k0) (.slice A1 n1 k1), .int .i64 5]) ∧ Below w.heap.size w w' := by
  have HC_Byt := Aside0.mk (fun (W : World) (h : Below w.heap.size w W) => catchpitref02_Byte.calls c true W (hG.below h) hbyt)
  clear hG
  go_enter Tryd.func40, Tryd.ntmps40
  go_wp2_with fail
  refine (HC_Byt.out _ (below3 (Below.refl _ _) _ _ _)).mono ?_
  rintro e w4 ⟨rfl, hd4⟩
  obtain ⟨w2, rfl, hs2, hb2⟩ := drawn3 hd4
  clear hd4
  go_wp2
  refine bodyPost_ret (results_ct rfl _ _ (w.heap.size + 1 + 1) 39 _ (0, 0) _ (by rfl) (by rw [← hs2]; exact blk3 w2 _ _ _ _) Tryd.underlying39 rfl (by kernel_rfl)) rfl ⟨rfl, below3 hb2 _ _ _⟩
set_option maxHeartbeats 4000000 in
set_option maxRecDepth 100000 in
theorem st8_1d (n co li sz : Int) (tx : ByteArray) (A0 A1 : Option Addr) (n0 n1 k0 k1 : Nat) (c l0 l1 l2 : Int) (w : World) (hG : TabOk w) (h3 : (c == 13) = false) (hbyt : catchpitref02_Byte.f c = some true) (h4 : ¬ l0 ≤ co) (hw : IntKind.i64.wrap (co + 1) = co + 1) :
    Calls Tryd.prog 40 #[stV 1 n co li sz tx (.slice A0 n0 k0) (.slice A1 n1 k1), .int .u8 c, .agg #[.int .i64 l0, .int .i64 l1, .int .i64 l2]] w fun e w' => e = .returned (.tuple #[stV 1 n (co + 1) li sz tx (.slice A0 n0 k0) (.slice A1 n1 k1), .int .i64 0]) ∧ Below w.heap.size w w' := by
  have HC_Byt := Aside0.mk (fun (W : World) (h : Below w.heap.size w W) => catchpitref02_Byte.calls c true W (hG.below h) hbyt)
  clear hG
  go_enter Tryd.func40, Tryd.ntmps40
  go_wp2_with fail
  refine (HC_Byt.out _ (below3 (Below.refl _ _) _ _ _)).mono ?_
  rintro e w4 ⟨rfl, hd4⟩
  obtain ⟨w2, rfl, hs2, hb2⟩ := drawn3 hd4
  clear hd4
  go_wp2
  refine bodyPost_ret (results_ct rfl _ _ (w.heap.size + 1 + 1) 39 _ (0, 0) _ (by rfl) (by rw [← hs2]; exact blk3 w2 _ _ _ _) Tryd.underlying39 rfl (by kernel_rfl)) rfl ⟨rfl, below3 hb2 _ _ _⟩
set_option maxHeartbeats 4000000 in
set_option maxRecDepth 100000 in
theorem st8_2a (n co li sz : Int) (tx : ByteArray) (A0 A1 : Option Addr) (n0 n1 k0 k1 : Nat) (c l0 l1 l2 : Int) (w : World) (hG : TabOk w) (h3 : (c != 10) = true) :
    Calls Tryd.prog 40 #[stV 2 n co li sz tx (.slice A0 n0 k0) (.slice A1 n1 k1), .int .u8 c, .agg #[.int .i64 l0, .int .i64 l1, .int .i64 l2]] w fun e w' => e = .returned (.tuple #[stV 2 n co li sz tx (.slice A0 n0 k0) (.slice A1 n1 k1), .int .i64 2]) ∧ Below w.heap.size w w' := by
  clear hG
  go_enter Tryd.func40, Tryd.ntmps40
  go_wp2
  refine bodyPost_ret (results_ct rfl _ _ (w.heap.size + 1 + 1) 39 _ (0, 0) _ (by rfl) (by exact blk3 w _ _ _ _) Tryd.underlying39 rfl (by kernel_rfl)) rfl ⟨rfl, below3 (Below.refl _ _) _ _ _⟩
set_option maxHeartbeats 4000000 in
set_option maxRecDepth 100000 in
theorem st8_5a (n co li sz : Int) (tx : ByteArray) (A0 A1 : Option Addr) (n0 n1 k0 k1 : Nat) (c l0 l1 l2 : Int) (w : World) (hG : TabOk w) (h3 : (c != 10) = true) :
    Calls Tryd.prog 40 #[stV 5 n co li sz tx (.slice A0 n0 k0) (.slice A1 n1 k1), .int .u8 c, .agg #[.int .i64 l0, .int .i64 l1, .int .i64 l2]] w fun e w' => e = .returned (.tuple #[stV 5 n co li sz tx (.slice A0 n0 k0) (.slice A1 n1 k1), .int .i64 2]) ∧ Below w.heap.size w w' := by
  clear hG
  go_enter Tryd.func40, Tryd.ntmps40
  go_wp2
  refine bodyPost_ret (results_ct rfl _ _ (w.heap.size + 1 + 1) 39 _ (0, 0) _ (by rfl) (by exact blk3 w _ _ _ _) Tryd.underlying39 rfl (by kernel_rfl)) rfl ⟨rfl, below3 (Below.refl _ _) _ _ _⟩
set_option maxHeartbeats 4000000 in
set_option maxRecDepth 100000 in
theorem st8_9a (n co li sz : Int) (tx : ByteArray) (A0 A1 : Option Addr) (n0 n1 k0 k1 : Nat) (c l0 l1 l2 : Int) (w : World) (hG : TabOk w) (h3 : (c != 10) = true) :
    Calls Tryd.prog 40 #[stV 9 n co li sz tx (.slice A0 n0 k0) (.slice A1 n1 k1), .int .u8 c, .agg #[.int .i64 l0, .int .i64 l1, .int .i64 l2]] w fun e w' => e = .returned (.tuple #[stV 9 n co li sz tx (.slice A0 n0 k0) (.slice A1 n1 k1), .int .i64 2]) ∧ Below w.heap.size w w' := by
  clear hG
  go_enter Tryd.func40, Tryd.ntmps40
  go_wp2
  refine bodyPost_ret (results_ct rfl _ _ (w.heap.size + 1 + 1) 39 _ (0, 0) _ (by rfl) (by exact blk3 w _ _ _ _) Tryd.underlying39 rfl (by kernel_rfl)) rfl ⟨rfl, below3 (Below.refl _ _) _ _ _⟩
set_option maxHeartbeats 4000000 in
set_option maxRecDepth 100000 in
theorem st8_10a (n co li sz : Int) (tx : ByteArray) (A0 A1 : Option Addr) (n0 n1 k0 k1 : Nat) (c l0 l1 l2 : Int) (w : World) (hG : TabOk w) (h3 : (c != 10) = true) :
    Calls Tryd.prog 40 #[stV 10 n co li sz tx (.slice A0 n0 k0) (.slice A1 n1 k1), .int .u8 c, .agg #[.int .i64 l0, .int .i64 l1, .int .i64 l2]] w fun e w' => e = .returned (.tuple #[stV 10 n co li sz tx (.slice A0 n0 k0) (.slice A1 n1 k1), .int .i64 2]) ∧ Below w.heap.size w w' := by
  clear hG
  go_enter Tryd.func40, Tryd.ntmps40
  go_wp2
  refine bodyPost_ret (results_ct rfl _ _ (w.heap.size + 1 + 1) 39 _ (0, 0) _ (by rfl) (by exact blk3 w _ _ _ _) Tryd.underlying39 rfl (by kernel_rfl)) rfl ⟨rfl, below3 (Below.refl _ _) _ _ _⟩
set_option maxHeartbeats 4000000 in
set_option maxRecDepth 100000 in
theorem st8_2b (n co li sz : Int) (tx : ByteArray) (A0 A1 : Option Addr) (n0 n1 k0 k1 : Nat) (c l0 l1 l2 : Int) (w : World) (hG : TabOk w) (h3 : (c != 10) = false) (h4 : 0 < n) :
    Calls Tryd.prog 40 #[stV 2 n co li sz tx (.slice A0 n0 k0) (.slice A1 n1 k1), .int .u8 c, .agg #[.int .i64 l0, .int .i64 l1, .int .i64 l2]] w fun e w' => e = .returned (.tuple #[stV 3 n co li sz tx (.slice A0 n0 k0) (.slice A1 n1 k1), .int .i64 0]) ∧ Below w.heap.size w w' := by
  clear hG
  go_enter Tryd.func40, Tryd.ntmps40
  go_wp2
  refine bodyPost_ret (results_ct rfl _ _ (w.heap.size + 1 + 1) 39 _ (0, 0) _ (by rfl) (by exact blk3 w _ _ _ _) Tryd.underlying39 rfl (by kernel_rfl)) rfl ⟨rfl, below3 (Below.refl _ _) _ _ _⟩
set_option maxHeartbeats 4000000 in
set_option maxRecDepth 100000 in
theorem st8_2c (co li sz : Int) (tx : ByteArray) (A0 A1 : Option Addr) (n0 n1 k0 k1 : Nat) (c l0 l1 l2 : Int) (w : World) (hG : TabOk w) (h3 : (c != 10) = false) :
    Calls Tryd.prog 40 #[stV 2 0 co li sz tx (.slice A0 n0 k0) (.slice A1 n1 k1), .int .u8 c, .agg #[.int .i64 l0, .int .i64 l1, .int .i64 l2]] w fun e w' => e = .returned (.tuple #[stV 6 0 co li sz tx (.slice A0 n0 k0) (.slice A1 n1 k1), .int .i64 0]) ∧ Below w.heap.size w w' := by
  clear hG
  go_enter Tryd.func40, Tryd.ntmps40
  go_wp2
  refine bodyPost_ret (results_ct rfl _ _ (w.heap.size + 1 + 1) 39 _ (0, 0) _ (by rfl) (by exact blk3 w _ _ _ _) Tryd.underlying39 rfl (by kernel_rfl)) rfl ⟨rfl, below3 (Below.refl _ _) _ _ _⟩
set_option maxHeartbeats 4000000 in
set_option maxRecDepth 100000 in
theorem st8_5b (n co li sz : Int) (tx : ByteArray) (A0 A1 : Option Addr) (n0 n1 k0 k1 : Nat) (c l0 l1 l2 : Int) (w : World) (hG : TabOk w) (h3 : (c != 10) = false) :
    Calls Tryd.prog 40 #[stV 5 n co li sz tx (.slice A0 n0 k0) (.slice A1 n1 k1), .int .u8 c, .agg #[.int .i64 l0, .int .i64 l1, .int .i64 l2]] w fun e w' => e = .returned (.tuple #[stV 0 n 0 li sz tx (.slice A0 n0 k0) (.slice A1 n1 k1), .int .i64 0]) ∧ Below w.heap.size w w' := by
  clear hG
  go_enter Tryd.func40, Tryd.ntmps40
  go_wp2
  refine bodyPost_ret (results_ct rfl _ _ (w.heap.size + 1 + 1) 39 _ (0, 0) _ (by rfl) (by exact blk3 w _ _ _ _) Tryd.underlying39 rfl (by kernel_rfl)) rfl ⟨rfl, below3 (Below.refl _ _) _ _ _⟩
set_option maxHeartbeats 4000000 in
set_option maxRecDepth 100000 in
theorem st8_10b (n co li sz : Int) (tx : ByteArray) (A0 A1 : Option Addr) (n0 n1 k0 k1 : Nat) (c l0 l1 l2 : Int) (w : World) (hG : TabOk w) (h3 : (c != 10) = false) :
    Calls Tryd.prog 40 #[stV 10 n co li sz tx (.slice A0 n0 k0) (.slice A1 n1 k1), .int .u8 c, .agg #[.int .i64 l0, .int .i64 l1, .int .i64 l2]] w fun e w' => e = .returned (.tuple #[stV 11 n co li sz tx (.slice A0 n0 k0) (.slice A1 n1 k1), .int .i64 0]) ∧ Below w.heap.size w w' := by
  clear hG
  go_enter Tryd.func40, Tryd.ntmps40
  go_wp2
  refine bodyPost_ret (results_ct rfl _ _ (w.heap.size + 1 + 1) 39 _ (0, 0) _ (by rfl) (by exact blk3 w _ _ _ _) Tryd.underlying39 rfl (by kernel_rfl)) rfl ⟨rfl, below3 (Below.refl _ _) _ _ _⟩
set_option maxHeartbeats 4000000 in
set_option maxRecDepth 100000 in
theorem st8_4a (n co li sz : Int) (tx : ByteArray) (A0 A1 : Option Addr) (n0 n1 k0 k1 : Nat) (c l0 l1 l2 : Int) (w : World) (hG : TabOk w) (h3 : (c != 13) = true) :
    Calls Tryd.prog 40 #[stV 4 n co li sz tx (.slice A0 n0 k0) (.slice A1 n1 k1), .int .u8 c, .agg #[.int .i64 l0, .int .i64 l1, .int .i64 l2]] w fun e w' => e = .returned (.tuple #[stV 4 n co li sz tx (.slice A0 n0 k0) (.slice A1 n1 k1), .int .i64 2]) ∧ Below w.heap.size w w' := by
  clear hG
  go_enter Tryd.func40, Tryd.ntmps40
  go_wp2
  refine bodyPost_ret (results_ct rfl _ _ (w.heap.size + 1 + 1) 39 _ (0, 0) _ (by rfl) (by exact blk3 w _ _ _ _) Tryd.underlying39 rfl (by kernel_rfl)) rfl ⟨rfl, below3 (Below.refl _ _) _ _ _⟩
set_option maxHeartbeats 4000000 in
set_option maxRecDepth 100000 in
theorem st8_4b (n co li sz : Int) (tx : ByteArray) (A0 A1 : Option Addr) (n0 n1 k0 k1 : Nat) (c l0 l1 l2 : Int) (w : World) (hG : TabOk w) (h3 : (c != 13) = false) :
    Calls Tryd.prog 40 #[stV 4 n co li sz tx (.slice A0 n0 k0) (.slice A1 n1 k1), .int .u8 c, .agg #[.int .i64 l0, .int .i64 l1, .int .i64 l2]] w fun e w' => e = .returned (.tuple #[stV 5 n co li sz tx (.slice A0 n0 k0) (.slice A1 n1 k1), .int .i64 0]) ∧ Below w.heap.size w w' := by
  clear hG
  go_enter Tryd.func40, Tryd.ntmps40
  go_wp2
  refine bodyPost_ret (results_ct rfl _ _ (w.heap.size + 1 + 1) 39 _ (0, 0) _ (by rfl) (by exact blk3 w _ _ _ _) Tryd.underlying39 rfl (by kernel_rfl)) rfl ⟨rfl, below3 (Below.refl _ _) _ _ _⟩
set_option maxHeartbeats 4000000 in
set_option maxRecDepth 100000 in
theorem st8_6a (n co li sz : Int) (tx : ByteArray) (A0 A1 : Option Addr) (n0 n1 k0 k1 : Nat) (c l0 l1 l2 : Int) (w : World) (hG : TabOk w) (h3 : (c == 13) = true) :
    Calls Tryd.prog 40 #[stV 6 n co li sz tx (.slice A0 n0 k0) (.slice A1 n1 k1), .int .u8 c, .agg #[.int .i64 l0, .int .i64 l1, .int .i64 l2]] w fun e w' => e = .returned (.tuple #[stV 10 n co li sz tx (.slice A0 n0 k0) (.slice A1 n1 k1), .int .i64 0]) ∧ Below w.heap.size w w' := by
  clear hG
  go_enter Tryd.func40, Tryd.ntmps40
  go_wp2
  refine bodyPost_ret (results_ct rfl _ _ (w.heap.size + 1 + 1) 39 _ (0, 0) _ (by rfl) (by exact blk3 w _ _ _ _) Tryd.underlying39 rfl (by kernel_rfl)) rfl ⟨rfl, below3 (Below.refl _ _) _ _ _⟩
set_option maxHeartbeats 4000000 in
set_option maxRecDepth 100000 in
theorem st8_8b (n co li sz : Int) (tx : ByteArray) (A0 A1 : Option Addr) (n0 n1 k0 k1 : Nat) (c l0 l1 l2 : Int) (w : World) (hG : TabOk w) (h3 : (c == 13) = false) (hbyt : catchpitref02_Byte.f c = some false) :
    Calls Tryd.prog 40 #[stV 8 n co li sz tx (.slice A0 n0 k0) (.slice A1 n1 k1), .int .u8 c, .agg #[.int .i64 l0, .int .i64 l1, .int .i64 l2]] w fun e w' => e = .returned (.tuple #[stV 8 n co li sz tx (.slice A0 n0 k0) (.slice A1 n1 k1), .int .i64 2]) ∧ Below w.heap.size w w' := by
  have HC_Byt := Aside0.mk (fun (W : World) (h : Below w.heap.size w W) => catchpitref02_Byte.calls c false W (hG.below h) hbyt)
  clear hG
  go_enter Tryd.func40, Tryd.ntmps40
  go_wp2_with fail
  refine (HC_Byt.out _ (below3 (Below.refl _ _) _ _ _)).mono ?_
  rintro e w4 ⟨rfl, hd4⟩
  obtain ⟨w2, rfl, hs2, hb2⟩ := drawn3 hd4
  clear hd4
  go_wp2
  refine bodyPost_ret (results_ct rfl _ _ (w.heap.size + 1 + 1) 39 _ (0, 0) _ (by rfl) (by rw [← hs2]; exact blk3 w2 _ _ _ _) Tryd.underlying39 rfl (by kernel_rfl)) rfl ⟨rfl, below3 hb2 _ _ _⟩
end Go.Proofs.YtmmbpbgcobmifaaDoorH
end
section
namespace Go.Proofs.YtmmbpbgcobmifaaDoor.Pr
end Go.Proofs.YtmmbpbgcobmifaaDoor.Pr
namespace Go.Proofs.YtmmbpbgcobmifaaDoorH
set_option linter.unusedVariables false
set_option linter.unusedSimpArgs false
open Go Go.RowKit Go.Proofs.YtmmbpbgcobmifaaDoorW.PrintWords Go.Proofs.YtmmbpbgcobmifaaDoorW.PrintLast Go.Proofs.YtmmbpbgcobmifaaDoorW.PrintMore Go.Proofs.YtmmbpbgcobmifaaDoor.Pr Go.Proofs.YtmmbpbgcobmifaaDoorM
theorem drawn4 {w w4 : World} {a b c d : Obj} (h : Drawn0 ((((w.alloc a).alloc b).alloc c).alloc d) w4) : ∃ w2, w4 = ((((w2.alloc a).alloc b).alloc c).alloc d) ∧ w2.heap.size = w.heap.size ∧ Below w.heap.size w w2 := by
  obtain ⟨n, rfl⟩ := h.out
  exact ⟨w.drewN n, rfl, rfl, pw_below_drewN (Below.refl _ _) n⟩
theorem blk4 (w : World) (a b d : Obj) (cs : Array Value) (t : TypeId) : ((((w.alloc a).alloc b).alloc (.cells cs t)).alloc d).heap[w.heap.size + 1 + 1]? = some (.cells cs t (0, 0)) := alloc_keep _ (blk3 w a b cs t)
theorem one_byte (W : World) (c : Int) : (convert 24 9 (.slice (some ⟨W.heap.size, 0, none⟩) 1 1)).run Tryd.prog (W.alloc (.cells #[.int .u8 c] 5)) = .ok (.string (strOfNums [c])) (W.alloc (.cells #[.int .u8 c] 5)) := by
  refine Kd.C_string (xs := [c]) (c := 1) Tryd.underlying24 Tryd.underlying5 Tryd.underlying9 ⟨rfl, by decide, fun _ => ⟨_, rfl, fun j p hj => ?_⟩⟩
  match j with
  | 0 =>
    have e : c = p := by simpa using hj
    subst e
    refine ⟨[.int .u8 c], rfl, rfl, fun i u hu => ?_⟩
    match i with
    | 0 =>
      have e : Value.int .u8 c = u := by simpa using hu
      subst e
      exact World.news_of_block (World.alloc_heap_new W _) 0 _ rfl
    | i + 1 => simp at hu
  | j + 1 => simp at hj
theorem one_byte4 (w : World) (x : Int) (a b d : Obj) : (convert 24 9 (.slice (some ⟨w.heap.size + 1 + 1 + 1, 0, none⟩) 1 1)).run Tryd.prog ((((w.alloc a).alloc b).alloc d).alloc (.cells #[.int .u8 x] 5)) = .ok (.string (strOfNums [x])) ((((w.alloc a).alloc b).alloc d).alloc (.cells #[.int .u8 x] 5)) := by
  have := one_byte (((w.alloc a).alloc b).alloc d) x
  rwa [World.size_alloc, World.size_alloc, World.size_alloc] at this
set_option maxHeartbeats 4000000 in
set_option maxRecDepth 100000 in
theorem st8_0b (n co li sz : Int) (tx : ByteArray) (A0 A1 : Option Addr) (n0 n1 k0 k1 : Nat) (c l0 l1 l2 : Int) (w : World) (hG : TabOk w) (k : Nat) (dg : Int) (hdig : catchpitref01_Digit.f k c = some dg) (h0 : 0 ≤ dg) (hco : (co == 16) = false) (q : Int) (hq0 : IntKind.u64.wrap dg = dg) (hq1 : IntKind.u64.wrap (4611686018427387903 - dg) = 4611686018427387903 - dg) (hq2 : IntKind.u64.wrap (Int.tdiv (4611686018427387903 - dg) 16) = q) (hq3 : q < n) :
    Calls Tryd.prog 40 #[stV 0 n co li sz tx (.slice A0 n0 k0) (.slice A1 n1 k1), .int .u8 c, .agg #[.int .i64 l0, .int .i64 l1, .int .i64 l2]] w fun e w' => e = .returned (.tuple #[stV 0 n co li sz tx (.slice A0 n0 k0) (.slice A1 n1 k1), .int .i64 3]) ∧ Below w.heap.size w w' := by
  have HC_Dig := Aside0.mk (fun (W : World) (h : Below w.heap.size w W) => catchpitref01_Digit.calls k c dg W (hG.below h) hdig)
  clear hG
  go_enter Tryd.func40, Tryd.ntmps40
  go_wp2_with fail
  refine (HC_Dig.out _ (below3 (Below.refl _ _) _ _ _)).mono ?_
  rintro e w4 ⟨rfl, hd4⟩
  obtain ⟨w2, rfl, hs2, hb2⟩ := drawn3 hd4
  clear hd4
  go_wp2
  refine bodyPost_ret (results_ct rfl _ _ (w.heap.size + 1 + 1) 39 _ (0, 0) _ (by rfl) (by rw [← hs2]; exact blk3 w2 _ _ _ _) Tryd.underlying39 rfl (by kernel_rfl)) rfl ⟨rfl, below3 hb2 _ _ _⟩
set_option maxHeartbeats 4000000 in
set_option maxRecDepth 100000 in
theorem st8_0c (n co li sz : Int) (tx : ByteArray) (A0 A1 : Option Addr) (n0 n1 k0 k1 : Nat) (c l0 l1 l2 : Int) (w : World) (hG : TabOk w) (k : Nat) (dg : Int) (hdig : catchpitref01_Digit.f k c = some dg) (h0 : 0 ≤ dg) (hco : (co == 16) = false) (q : Int) (hq0 : IntKind.u64.wrap dg = dg) (hq1 : IntKind.u64.wrap (4611686018427387903 - dg) = 4611686018427387903 - dg) (hq2 : IntKind.u64.wrap (Int.tdiv (4611686018427387903 - dg) 16) = q) (hq3 : ¬ q < n) (hm0 : IntKind.u64.wrap (16 * n) = 16 * n) (hm1 : IntKind.u64.wrap (16 * n + dg) = 16 * n + dg) (hw : IntKind.i64.wrap (co + 1) = co + 1) :
    Calls Tryd.prog 40 #[stV 0 n co li sz tx (.slice A0 n0 k0) (.slice A1 n1 k1), .int .u8 c, .agg #[.int .i64 l0, .int .i64 l1, .int .i64 l2]] w fun e w' => e = .returned (.tuple #[stV 0 (16 * n + dg) (co + 1) li sz tx (.slice A0 n0 k0) (.slice A1 n1 k1), .int .i64 0]) ∧ Below w.heap.size w w' := by
  have HC_Dig := Aside0.mk (fun (W : World) (h : Below w.heap.size w W) => catchpitref01_Digit.calls k c dg W (hG.below h) hdig)
  clear hG
  go_enter Tryd.func40, Tryd.ntmps40
  go_wp2_with fail
  refine (HC_Dig.out _ (below3 (Below.refl _ _) _ _ _)).mono ?_
  rintro e w4 ⟨rfl, hd4⟩
  obtain ⟨w2, rfl, hs2, hb2⟩ := drawn3 hd4
  clear hd4
  go_wp2
  refine bodyPost_ret (results_ct rfl _ _ (w.heap.size + 1 + 1) 39 _ (0, 0) _ (by rfl) (by rw [← hs2]; exact blk3 w2 _ _ _ _) Tryd.underlying39 rfl (by kernel_rfl)) rfl ⟨rfl, below3 hb2 _ _ _⟩
set_option maxHeartbeats 4000000 in
set_option maxRecDepth 100000 in
theorem st8_7b (n co li sz : Int) (tx : ByteArray) (A0 A1 : Option Addr) (n0 n1 k0 k1 : Nat) (c l0 l1 l2 : Int) (w : World) (hG : TabOk w) (h3 : (c == 58) = false) (k : Nat) (htok : catchpitref02_Token.f k (strOfNums [c]) = some false) :
    Calls Tryd.prog 40 #[stV 7 n co li sz tx (.slice A0 n0 k0) (.slice A1 n1 k1), .int .u8 c, .agg #[.int .i64 l0, .int .i64 l1, .int .i64 l2]] w fun e w' => e = .returned (.tuple #[stV 7 n co li sz tx (.slice A0 n0 k0) (.slice A1 n1 k1), .int .i64 2]) ∧ Below w.heap.size w w' := by
  have HC_Tok := Aside0.mk (fun (W : World) (h : Below w.heap.size w W) => catchpitref02_Token.calls k (strOfNums [c]) false W (hG.below h) htok)
  clear hG
  go_enter Tryd.func40, Tryd.ntmps40
  have hcv := one_byte4 w c
  go_wp2_with fail
  refine (HC_Tok.out _ (below_alloc (below3 (Below.refl _ _) _ _ _) _)).mono ?_
  rintro e w4 ⟨rfl, hd4⟩
  obtain ⟨w2, rfl, hs2, hb2⟩ := drawn4 hd4
  clear hd4
  go_wp2
  refine bodyPost_ret (results_ct rfl _ _ (w.heap.size + 1 + 1) 39 _ (0, 0) _ (by rfl) (by rw [← hs2]; exact blk4 w2 _ _ _ _ _) Tryd.underlying39 rfl (by kernel_rfl)) rfl ⟨rfl, below_alloc (below3 hb2 _ _ _) _⟩
set_option maxHeartbeats 4000000 in
set_option maxRecDepth 100000 in
theorem st8_6b (n co li sz : Int) (tx : ByteArray) (A0 A1 : Option Addr) (n0 n1 k0 k1 : Nat) (c l0 l1 l2 : Int) (w : World) (hG : TabOk w) (h3 : (c == 13) = false) (k : Nat) (htok : catchpitref02_Token.f k (strOfNums [c]) = some false) :
    Calls Tryd.prog 40 #[stV 6 n co li sz tx (.slice A0 n0 k0) (.slice A1 n1 k1), .int .u8 c, .agg #[.int .i64 l0, .int .i64 l1, .int .i64 l2]] w fun e w' => e = .returned (.tuple #[stV 6 n co li sz tx (.slice A0 n0 k0) (.slice A1 n1 k1), .int .i64 2]) ∧ Below w.heap.size w w' := by
  have HC_Tok := Aside0.mk (fun (W : World) (h : Below w.heap.size w W) => catchpitref02_Token.calls k (strOfNums [c]) false W (hG.below h) htok)
  clear hG
  go_enter Tryd.func40, Tryd.ntmps40
  have hcv := one_byte4 w c
  go_wp2_with fail
  refine (HC_Tok.out _ (below_alloc (below3 (Below.refl _ _) _ _ _) _)).mono ?_
  rintro e w4 ⟨rfl, hd4⟩
  obtain ⟨w2, rfl, hs2, hb2⟩ := drawn4 hd4
  clear hd4
  go_wp2
  refine bodyPost_ret (results_ct rfl _ _ (w.heap.size + 1 + 1) 39 _ (0, 0) _ (by rfl) (by rw [← hs2]; exact blk4 w2 _ _ _ _ _) Tryd.underlying39 rfl (by kernel_rfl)) rfl ⟨rfl, below_alloc (below3 hb2 _ _ _) _⟩
set_option maxHeartbeats 4000000 in
set_option maxRecDepth 100000 in
theorem st8_6c (n co li sz : Int) (tx : ByteArray) (A0 A1 : Option Addr) (n0 n1 k0 k1 : Nat) (c l0 l1 l2 : Int) (w : World) (hG : TabOk w) (h3 : (c == 13) = false) (h4 : l1 ≤ li) (k : Nat) (htok : catchpitref02_Token.f k (strOfNums [c]) = some true) :
    Calls Tryd.prog 40 #[stV 6 n co li sz tx (.slice A0 n0 k0) (.slice A1 n1 k1), .int .u8 c, .agg #[.int .i64 l0, .int .i64 l1, .int .i64 l2]] w fun e w' => e = .returned (.tuple #[stV 6 n co li sz tx (.slice A0 n0 k0) (.slice A1 n1 k1), .int .i64 5]) ∧ Below w.heap.size w w' := by
  have HC_Tok := Aside0.mk (fun (W : World) (h : Below w.heap.size w W) => catchpitref02_Token.calls k (strOfNums [c]) true W (hG.below h) htok)
  clear hG
  go_enter Tryd.func40, Tryd.ntmps40
  have hcv := one_byte4 w c
  go_wp2_with fail
  refine (HC_Tok.out _ (below_alloc (below3 (Below.refl _ _) _ _ _) _)).mono ?_
  rintro e w4 ⟨rfl, hd4⟩
  obtain ⟨w2, rfl, hs2, hb2⟩ := drawn4 hd4
  clear hd4
  go_wp2
  refine bodyPost_ret (results_ct rfl _ _ (w.heap.size + 1 + 1) 39 _ (0, 0) _ (by rfl) (by rw [← hs2]; exact blk4 w2 _ _ _ _ _) Tryd.underlying39 rfl (by kernel_rfl)) rfl ⟨rfl, below_alloc (below3 hb2 _ _ _) _⟩
end Go.Proofs.YtmmbpbgcobmifaaDoorH
end
section
namespace Go.Proofs.YtmmbpbgcobmifaaDoor.Pr
end Go.Proofs.YtmmbpbgcobmifaaDoor.Pr
namespace Go.Proofs.YtmmbpbgcobmifaaDoorH
set_option linter.unusedVariables false
set_option linter.unusedSimpArgs false
open Go Go.RowKit Go.Proofs.YtmmbpbgcobmifaaDoorW.PrintWords Go.Proofs.YtmmbpbgcobmifaaDoorW.PrintLast Go.Proofs.YtmmbpbgcobmifaaDoorW.PrintMore Go.Proofs.YtmmbpbgcobmifaaDoor.Pr Go.Proofs.YtmmbpbgcobmifaaDoorM
theorem put8 {W : World} {g : Nat} {t : TypeId} {z0 z1 z2 z3 z4 z5 z6 z7 : Value} (h : W.heap[g]? = some (.cells #[z0, z1, z2, z3, z4, z5, z6, z7] t (0, 0))) (v0 v1 v2 v3 v4 v5 v6 v7 : Value) : ((((((((W.setCell ⟨g, 0, none⟩ v0).setCell ⟨g, 1, none⟩ v1).setCell ⟨g, 2, none⟩ v2).setCell ⟨g, 3, none⟩ v3).setCell ⟨g, 4, none⟩ v4).setCell ⟨g, 5, none⟩ v5).setCell ⟨g, 6, none⟩ v6).setCell ⟨g, 7, none⟩ v7).heap[g]? = some (.cells #[v0, v1, v2, v3, v4, v5, v6, v7] t (0, 0)) := blk_put (cs := #[v0, v1, v2, v3, v4, v5, v6, z7]) (blk_put (cs := #[v0, v1, v2, v3, v4, v5, z6, z7]) (blk_put (cs := #[v0, v1, v2, v3, v4, z5, z6, z7]) (blk_put (cs := #[v0, v1, v2, v3, z4, z5, z6, z7]) (blk_put (cs := #[v0, v1, v2, z3, z4, z5, z6, z7]) (blk_put (cs := #[v0, v1, z2, z3, z4, z5, z6, z7]) (blk_put (cs := #[v0, z1, z2, z3, z4, z5, z6, z7]) (blk_put (cs := #[z0, z1, z2, z3, z4, z5, z6, z7]) h 0 _ rfl) 1 _ rfl) 2 _ rfl) 3 _ rfl) 4 _ rfl) 5 _ rfl) 6 _ rfl) 7 _ rfl
theorem farH (W : World) (g j : Nat) (v : Value) (k : Nat) (hk : k ≠ g) : (W.setCell ⟨g, j, none⟩ v).heap[k]? = W.heap[k]? := Below.heap_setCell W ⟨g, j, none⟩ v k hk
theorem bset {B : Nat} {w W : World} (h : Below B w W) (g j : Nat) (v : Value) (hg : B ≤ g) : Below B w (W.setCell ⟨g, j, none⟩ v) := h.setCell (p := ⟨g, j, none⟩) hg v
set_option maxHeartbeats 4000000 in
set_option maxRecDepth 100000 in
theorem ln8_a (p n co li sz : Int) (tx : ByteArray) (A0 A1 : Option Addr) (n0 n1 k0 k1 : Nat) (c l0 l1 l2 : Int) (w : World) (h4 : l2 ≤ sz) :
    Calls Tryd.prog 65 #[stV p n co li sz tx (.slice A0 n0 k0) (.slice A1 n1 k1), .int .u8 c, .agg #[.int .i64 l0, .int .i64 l1, .int .i64 l2]] w fun e w' => e = .returned (.tuple #[stV p n co li sz tx (.slice A0 n0 k0) (.slice A1 n1 k1), .int .i64 5]) ∧ Below w.heap.size w w' := by
  go_enter Tryd.func65, Tryd.ntmps65
  go_wp2
  refine bodyPost_ret (results_ct rfl _ _ (w.heap.size + 1 + 1) 39 _ (0, 0) _ (by rfl) (by exact blk3 w _ _ _ _) Tryd.underlying39 rfl (by kernel_rfl)) rfl ⟨rfl, below3 (Below.refl _ _) _ _ _⟩
set_option maxHeartbeats 4000000 in
set_option maxRecDepth 100000 in
theorem ln8_b (p n co li sz : Int) (tx : ByteArray) (A0 A1 : Option Addr) (n0 n1 k0 k1 : Nat) (c l0 l1 l2 : Int) (w : World) (h4 : ¬ l2 ≤ sz) (h3 : (c != 10) = true) (hw : IntKind.i64.wrap (sz + 1) = sz + 1) (ht : tx.size ≤ 1000000) :
    Calls Tryd.prog 65 #[stV p n co li sz tx (.slice A0 n0 k0) (.slice A1 n1 k1), .int .u8 c, .agg #[.int .i64 l0, .int .i64 l1, .int .i64 l2]] w fun e w' => e = .returned (.tuple #[stV p n co li (sz + 1) (tx ++ strOfNums [c]) (.slice A0 n0 k0) (.slice A1 n1 k1), .int .i64 0]) ∧ Below w.heap.size w w' := by
  have hcv := one_byte4 w c
  have hz1 : (strOfNums [c]).size = 1 := rfl
  have ht2 : ¬ 9223372036854775807 < tx.size + 1 := by omega
  go_enter Tryd.func65, Tryd.ntmps65
  go_wp2
  refine bodyPost_ret (results_ct rfl _ _ (w.heap.size + 1 + 1) 39 _ (0, 0) _ (by rfl) (by exact blk4 w _ _ _ _ _) Tryd.underlying39 rfl (by kernel_rfl)) rfl ⟨rfl, below_alloc (below3 (Below.refl _ _) _ _ _) _⟩
set_option maxHeartbeats 4000000 in
set_option maxRecDepth 100000 in
theorem ln8_d (n co li sz : Int) (tx : ByteArray) (A0 A1 : Option Addr) (n0 k0 k1 : Nat) (fs : List Fld) (c l0 l1 l2 : Int) (w : World) (hr : Kd.C k53 w A1 fs.length fs) (hk : fs.length ≤ k1) (hG : TabOk w) (h4 : ¬ l2 ≤ sz) (h3 : (c != 10) = false) (hw : IntKind.i64.wrap (sz + 1) = sz + 1) (ht : tx.size ≤ 1000000) (ht0 : 0 < tx.size) (hfl : fs.length ≤ 1000000) (k : Nat) (r1 r2 : ByteArray) (r3 : Bool) (hp : catchpitref05_Parse.f k (tx.extract 0 (tx.size - 1)) = some (r1, r2, r3)) :
    Calls Tryd.prog 65 #[stV 9 n co li sz tx (.slice A0 n0 k0) (.slice A1 fs.length k1), .int .u8 c, .agg #[.int .i64 l0, .int .i64 l1, .int .i64 l2]] w fun e w' => ∃ A2 k2, e = .returned (.tuple #[stV 6 n co li (sz + 1) ⟨#[]⟩ (.slice A0 n0 k0) (.slice A2 (fs ++ [(⟨r1, r2⟩ : Fld)]).length k2), .int .i64 0]) ∧ (fs ++ [(⟨r1, r2⟩ : Fld)]).length ≤ k2 ∧ (∀ W', (∀ k, w.heap.size ≤ k → W'.heap[k]? = w'.heap[k]?) → Kd.C k53 W' A2 (fs ++ [(⟨r1, r2⟩ : Fld)]).length (fs ++ [(⟨r1, r2⟩ : Fld)])) ∧ Below w.heap.size w w' := by
  have HP := Aside0.mk (fun (W : World) (h : Below w.heap.size w W) => catchpitref05_Parse.calls k _ r1 r2 r3 W (hG.below h) hp)
  have HR := Aside0.mk (fun (W : World) (h : Below w.heap.size w W) => Kd.C_below hr h)
  have hw1 : IntKind.i64.wrap ((tx.size : Int) - 1) = (tx.size : Int) - 1 := by
    unfold IntKind.wrap
    simp [IntKind.bits, IntKind.signed]
    omega
  have hs0 : (0 : Int) ≤ (tx.size : Int) - 1 := by omega
  have hs1 : (tx.size : Int) - 1 ≤ (tx.size : Int) := by omega
  have hs2 : ((tx.size : Int) - 1).toNat = tx.size - 1 := by omega
  clear hr hG hp
  go_enter Tryd.func65, Tryd.ntmps65
  go_wp2_with fail
  obtain ⟨W3, hW3⟩ : ∃ W3, (((w.alloc (.cells #[Value.int .i64 9, Value.int .u64 n, Value.int .i64 co, Value.int .i64 li, Value.int .i64 (sz + 1), Value.string tx, Value.slice A0 n0 k0, Value.slice A1 fs.length k1] 39)).alloc (.cells #[.int .i64 l0, .int .i64 l1, .int .i64 l2] 23)).alloc (.cells #[Value.int .i64 0, Value.int .u64 0, Value.int .i64 0, Value.int .i64 0, Value.int .i64 0, Value.string ⟨#[]⟩, Value.slice none 0 0, Value.slice none 0 0] 39)) = W3 := ⟨_, rfl⟩
  have B3 := Aside0.mk (show Below w.heap.size w W3 by rw [← hW3]; exact below3 (Below.refl _ _) _ _ _)
  have hS3 : W3.heap[w.heap.size]? = some (.cells #[Value.int .i64 9, Value.int .u64 n, Value.int .i64 co, Value.int .i64 li, Value.int .i64 (sz + 1), Value.string tx, Value.slice A0 n0 k0, Value.slice A1 fs.length k1] 39 (0, 0)) := by rw [← hW3]; exact alloc_keep _ (alloc_keep _ (World.alloc_heap_new w _))
  have hR3 : W3.heap[w.heap.size + 1 + 1]? = some (.cells #[Value.int .i64 0, Value.int .u64 0, Value.int .i64 0, Value.int .i64 0, Value.int .i64 0, Value.string ⟨#[]⟩, Value.slice none 0 0, Value.slice none 0 0] 39 (0, 0)) := by rw [← hW3]; exact blk3 w _ _ _ _
  rw [hW3]
  clear hW3
  refine (HP.out _ B3.out).mono ?_
  rintro e w4 ⟨rfl, hb4⟩
  have B4 := Aside0.mk (B3.out.trans (hb4.mono B3.out.size))
  have HS := Aside0.mk (fun W (h : Below w4.heap.size w4 W) => (h.block _ (blk_lt ((hb4.block _ (blk_lt hS3)).trans hS3))).trans ((hb4.block _ (blk_lt hS3)).trans hS3))
  have HRR := Aside0.mk (fun W (h : Below w4.heap.size w4 W) => (h.block _ (blk_lt ((hb4.block _ (blk_lt hR3)).trans hR3))).trans ((hb4.block _ (blk_lt hR3)).trans hR3))
  have hlt4 : w.heap.size + 1 + 1 < w4.heap.size := blk_lt (HRR.out w4 (Below.refl _ _))
  have hlt4' : w.heap.size < w4.heap.size := by omega
  have hne4 : ¬ w.heap.size = w4.heap.size := by omega
  have hne4' : ¬ w4.heap.size = w.heap.size := by omega
  clear hb4 hS3 hR3 HP
  have hS4 := HS.out w4 (Below.refl _ _)
  have s0 : w4.cell? ⟨w.heap.size, 0, none⟩ = some (Value.int .i64 9) := (blk_cell hS4 0).trans rfl
  have s1 : w4.cell? ⟨w.heap.size, 1, none⟩ = some (Value.int .u64 n) := (blk_cell hS4 1).trans rfl
  have s2 : w4.cell? ⟨w.heap.size, 2, none⟩ = some (Value.int .i64 co) := (blk_cell hS4 2).trans rfl
  have s3 : w4.cell? ⟨w.heap.size, 3, none⟩ = some (Value.int .i64 li) := (blk_cell hS4 3).trans rfl
  have s4 : w4.cell? ⟨w.heap.size, 4, none⟩ = some (Value.int .i64 (sz + 1)) := (blk_cell hS4 4).trans rfl
  have s5 : w4.cell? ⟨w.heap.size, 5, none⟩ = some (Value.string tx) := (blk_cell hS4 5).trans rfl
  have s6 : w4.cell? ⟨w.heap.size, 6, none⟩ = some (Value.slice A0 n0 k0) := (blk_cell hS4 6).trans rfl
  have s7 : w4.cell? ⟨w.heap.size, 7, none⟩ = some (Value.slice A1 fs.length k1) := (blk_cell hS4 7).trans rfl
  clear hS4
  go_wp2_with (first
    | ((with_reducible refine gate_builtin (b := .append) (xs := #[.tmp 47, .tmp 49]) rfl ?_); at_builtin; refine Kd.R_append_rows k53 (w0 := w4) w4.heap.size rfl (.tmp 47) (.tmp 49) 37 53 (.agg #[.string ⟨#[]⟩, .string ⟨#[]⟩]) 32 rfl Tryd.underlying37 info53 rfl (by decide) (by omega) (.slice none 0 0) ([] : List Fld) fs _ _ _ (fun _ => True) (fun _ => False) rfl rfl ?aO ?aR (fun _ _ h => h) (fun _ h => h.elim) (fun _ _ => trivial) ?aB ?aS ?aL ?_; (case aO => exact Kd.R_nil _ _ _ _ _); (case aR => exact HR.out _ (below_alloc B4.out _)); (case aB => exact below_alloc (Below.refl _ _) _); (case aS => exact (below_alloc (Below.refl _ _) _).size); (case aL => simp only [List.length_nil]; omega); intro v5 w5 ho5 hb5 hg5 hat5; have HO5 := Aside0.mk ho5; have HB5 := Aside0.mk hb5; have hbx := (hg5.block _ (blk_lt (World.alloc_heap_new w4 (.cells #[.string r1, .string r2] 53))) (by simp [Value.ownBlock])).trans (World.alloc_heap_new w4 _); have b0 : w5.cell? ⟨w4.heap.size, 0, none⟩ = some (.string r1) := (blk_cell hbx 0).trans rfl; have b1 : w5.cell? ⟨w4.heap.size, 1, none⟩ = some (.string r2) := (blk_cell hbx 1).trans rfl; clear ho5 hb5 hg5 hat5 hbx s0 s1 s2 s3 s4 s5 s6 s7)
    | ((with_reducible refine gate_builtin (b := .append) (xs := #[.tmp 51, .tmp 53]) rfl ?_); at_builtin; refine Kd.R_append k53 (w0 := w4) w4.heap.size rfl (.tmp 51) (.tmp 53) 37 53 (.agg #[.string ⟨#[]⟩, .string ⟨#[]⟩]) 32 rfl Tryd.underlying37 info53 rfl (by decide) (by omega) v5 ([] ++ fs) (⟨r1, r2⟩ : Fld) [.string r1, .string r2] (fun _ => True) (fun _ => False) rfl rfl ?aP (fun _ hk => hk.elim) (fun _ _ => trivial) ?aO ?aB ?aS ?aL ?_; (case aP => exact k53_mkM _ _ _ (⟨r1, r2⟩ : Fld)); (case aO => exact HO5.out); (case aB => exact HB5.out); (case aS => exact HB5.out.size); (case aL => simp only [List.nil_append]; omega); intro v6 w6 ho6 hb6 hg6 hat6; rw [List.nil_append] at ho6; have HO6 := Aside0.mk ho6; have HB6 := Aside0.mk hb6; obtain ⟨A6, c6, e6⟩ := Kd.R_slice ho6; subst e6; have hS6 := HS.out w6 hb6; have t0 : w6.cell? ⟨w.heap.size, 0, none⟩ = some (Value.int .i64 9) := (blk_cell hS6 0).trans rfl; have t1 : w6.cell? ⟨w.heap.size, 1, none⟩ = some (Value.int .u64 n) := (blk_cell hS6 1).trans rfl; have t2 : w6.cell? ⟨w.heap.size, 2, none⟩ = some (Value.int .i64 co) := (blk_cell hS6 2).trans rfl; have t3 : w6.cell? ⟨w.heap.size, 3, none⟩ = some (Value.int .i64 li) := (blk_cell hS6 3).trans rfl; have t4 : w6.cell? ⟨w.heap.size, 4, none⟩ = some (Value.int .i64 (sz + 1)) := (blk_cell hS6 4).trans rfl; have t5 : w6.cell? ⟨w.heap.size, 5, none⟩ = some (Value.string tx) := (blk_cell hS6 5).trans rfl; have t6 : w6.cell? ⟨w.heap.size, 6, none⟩ = some (Value.slice A0 n0 k0) := (blk_cell hS6 6).trans rfl; have t7 : w6.cell? ⟨w.heap.size, 7, none⟩ = some (Value.slice A1 fs.length k1) := (blk_cell hS6 7).trans rfl; have f0 := blk_frozen hS6 0; have f5 := blk_frozen hS6 5; have f7 := blk_frozen hS6 7; have hR6 := HRR.out w6 hb6; have u0 : w6.cell? ⟨w.heap.size + 1 + 1, 0, none⟩ = some (Value.int .i64 0) := (blk_cell hR6 0).trans rfl; have u1 : w6.cell? ⟨w.heap.size + 1 + 1, 1, none⟩ = some (Value.int .u64 0) := (blk_cell hR6 1).trans rfl; have u2 : w6.cell? ⟨w.heap.size + 1 + 1, 2, none⟩ = some (Value.int .i64 0) := (blk_cell hR6 2).trans rfl; have u3 : w6.cell? ⟨w.heap.size + 1 + 1, 3, none⟩ = some (Value.int .i64 0) := (blk_cell hR6 3).trans rfl; have u4 : w6.cell? ⟨w.heap.size + 1 + 1, 4, none⟩ = some (Value.int .i64 0) := (blk_cell hR6 4).trans rfl; have u5 : w6.cell? ⟨w.heap.size + 1 + 1, 5, none⟩ = some (Value.string ⟨#[]⟩) := (blk_cell hR6 5).trans rfl; have u6 : w6.cell? ⟨w.heap.size + 1 + 1, 6, none⟩ = some (Value.slice none 0 0) := (blk_cell hR6 6).trans rfl; have u7 : w6.cell? ⟨w.heap.size + 1 + 1, 7, none⟩ = some (Value.slice none 0 0) := (blk_cell hR6 7).trans rfl; have g0 := blk_frozen hR6 0; have g1 := blk_frozen hR6 1; have g2 := blk_frozen hR6 2; have g3 := blk_frozen hR6 3; have g4 := blk_frozen hR6 4; have g5 := blk_frozen hR6 5; have g6 := blk_frozen hR6 6; have g7 := blk_frozen hR6 7; have HR6 := Aside0.mk hR6; clear hR6; clear ho6 hb6 hg6 hat6 hS6 HO5))
  go_wp2
  have key : ∀ W, (∀ k, w4.heap.size ≤ k → W.heap[k]? = w6.heap[k]?) → (fs ++ [(⟨r1, r2⟩ : Fld)]).length ≤ c6 ∧ Kd.C k53 W A6 (fs ++ [(⟨r1, r2⟩ : Fld)]).length (fs ++ [⟨r1, r2⟩]) := fun W hW => by
    obtain ⟨_, _, q, hle, hC⟩ := Kd.R_reads (Kd.R_move (Kd.R_bound HO6.out) (fun k hk => hW k hk.2.1))
    cases q
    exact ⟨hle, hC⟩
  have hkk : ∀ k, w4.heap.size ≤ k → k ≠ w.heap.size ∧ k ≠ w.heap.size + 1 + 1 := fun k hk => by omega
  have hRS : w.heap.size + 1 + 1 ≠ w.heap.size := by omega
  refine bodyPost_ret (results_ct rfl _ _ (w.heap.size + 1 + 1) 39 _ (0, 0) _ (by rfl) (by exact put8 (by rw [farH _ _ _ _ _ hRS, farH _ _ _ _ _ hRS, farH _ _ _ _ _ hRS]; exact HR6.out) _ _ _ _ _ _ _ _) Tryd.underlying39 rfl (by kernel_rfl)) rfl ⟨A6, c6, by rw [List.length_append]; rfl, (key w6 (fun _ _ => rfl)).1, fun W' hW' => (key W' (fun k hk => (hW' k (by omega)).trans ?_)).2, ?_⟩
  · obtain ⟨q1, q2⟩ := hkk k hk
    rw [farH _ _ _ _ _ q2, farH _ _ _ _ _ q2, farH _ _ _ _ _ q2, farH _ _ _ _ _ q2, farH _ _ _ _ _ q2, farH _ _ _ _ _ q2, farH _ _ _ _ _ q2, farH _ _ _ _ _ q2, farH _ _ _ _ _ q1, farH _ _ _ _ _ q1, farH _ _ _ _ _ q1]
  · have hbb := B4.out.trans (HB6.out.mono B4.out.size)
    repeat (refine bset ?_ _ _ _ (by omega))
    exact hbb
end Go.Proofs.YtmmbpbgcobmifaaDoorH
end
