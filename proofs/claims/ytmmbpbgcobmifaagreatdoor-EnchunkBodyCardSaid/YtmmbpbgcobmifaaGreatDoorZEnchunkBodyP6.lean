import Derived.Test.YtmmbpbgcobmifaaGreatDoorZEnchunkBodyP3
import Derived.Test.YtmmbpbgcobmifaaGreatDoorZEnchunkBodyP5
import Derived.Test.YtmmbpbgcobmifaaGreatDoorZEnchunkBodyP1
import Derived.Test.YtmmbpbgcobmifaaGreatDoorZEnchunkBodyP4
import Derived.RangeFuncFrom
import Derived.RangeFuncWrites
import Derived.RangeFuncBox
import Derived.Maps.AppendAt
namespace Go.Proofs.YtmmbpbgcobmifaaGreatDoorH
end Go.Proofs.YtmmbpbgcobmifaaGreatDoorH
namespace Go.Proofs.YtmmbpbgcobmifaaGreatDoorW.PrintWords
end Go.Proofs.YtmmbpbgcobmifaaGreatDoorW.PrintWords
namespace Go.Proofs.YtmmbpbgcobmifaaGreatDoorW.PrintLast
end Go.Proofs.YtmmbpbgcobmifaaGreatDoorW.PrintLast
namespace Go.Proofs.YtmmbpbgcobmifaaGreatDoorW.PrintMore
end Go.Proofs.YtmmbpbgcobmifaaGreatDoorW.PrintMore
namespace Go.Proofs.YtmmbpbgcobmifaaGreatDoor.Pr
end Go.Proofs.YtmmbpbgcobmifaaGreatDoor.Pr
namespace Go.Proofs.YtmmbpbgcobmifaaGreatDoorM
end Go.Proofs.YtmmbpbgcobmifaaGreatDoorM
section
namespace Go.Proofs.YtmmbpbgcobmifaaGreatDoor.Pr
open Go.RowKit Go.Proofs.YtmmbpbgcobmifaaGreatDoorH Go.Proofs.YtmmbpbgcobmifaaGreatDoorW.PrintWords Go.Proofs.YtmmbpbgcobmifaaGreatDoorW.PrintLast Go.Proofs.YtmmbpbgcobmifaaGreatDoorW.PrintMore
attribute [local go_sem] max2_int min2_int max_two min_two max_three min_three max_four min_four   -- for this text's walks alone
set_option linter.unusedVariables false
set_option linter.unusedSimpArgs false
def field_Right.f (a0_0 : ByteArray) (a0_1 : ByteArray) : Option (Bool) := (octet_Token.f a0_0).bind fun t132 => (if t132 = true then ((octet_Value.f a0_1).bind fun t133 => (some t133)) else (some false))
set_option maxHeartbeats 8000000 in
set_option maxRecDepth 100000 in
theorem field_Right.calls (a0_0 : ByteArray) (a0_1 : ByteArray) (r : Bool) (w : World) (hG : TabOk w) (h : field_Right.f a0_0 a0_1 = some r) :
    Calls Tryz.prog 80 #[.agg #[.string a0_0, .string a0_1]] w fun e w' => e = .returned (.bool r) ∧ Below w.heap.size w w' := by
  have hu28 := Tryz.underlying28
  have HB := Aside0.mk (Below.refl w.heap.size w)
  have H : ((octet_Token.f a0_0).bind fun t132 => (if t132 = true then ((octet_Value.f a0_1).bind fun t133 => (some t133)) else (some false))) = some r := h
  clear h
  replace H := Option.bind_eq_some_iff.mp H
  obtain ⟨t132, A20, H⟩ := H
  replace H : (if t132 = true then ((octet_Value.f a0_1).bind fun t133 => (some t133)) else (some false)) = some r := H
  have A2 := Aside0.mk A20
  clear A20
  by_cases c3 : t132 = true
  · subst c3
    have H1 : ((octet_Value.f a0_1).bind fun t133 => (some t133)) = some r := by rw [if_pos rfl] at H; exact H
    clear H
    have H := H1
    clear H1
    replace H := Option.bind_eq_some_iff.mp H
    obtain ⟨t133, A40, H⟩ := H
    replace H : (some t133) = some r := H
    have A4 := Aside0.mk A40
    clear A40
    obtain rfl := Option.some.inj H
    go_enter Tryz.func80, Tryz.ntmps80
    go_wp2_with (first | ((with_reducible refine gate_dst (N := 1) rfl ?_); refine box_event ?hg (N := 1) ?hd (cs := #[.string a0_0, .string a0_1]) (t := 28) ?hr ?_; (case hd => rfl); (case hg => rfl); (case hr => first | (go_simp; done) | (go_simp; rfl)); intro gb131 hg w5 hbox hb; have n0_ := Aside0.mk (below_step (by repeat (first | (with_reducible first | exact HB.out | apply below_alloc | apply pw_below_drewN | apply below_drew1) | exact HB.out)) hb); have n1_ := Aside0.mk (hbox); have n2_ := Aside0.mk ((by rw [hg]; exact (below_size (by repeat (first | (with_reducible first | exact HB.out | apply below_alloc | apply pw_below_drewN | apply below_drew1) | exact HB.out))) : w.heap.size ≤ gb131)); have n3_ := Aside0.mk ((by rw [hg]; exact (below_size (by repeat (first | (with_reducible first | exact HB.out | apply below_alloc | apply pw_below_drewN | apply below_drew1) | exact HB.out))) : w.heap.size ≤ gb131)); clear HB; have HB := n0_; have BK131 := n1_; have GW131 := n2_; have GE131 := n3_; clear n0_ n1_ n2_ n3_; clear hb hbox hg; have hcz6_0 : w5.cell? ⟨gb131, 0, none⟩ = some (.string a0_0) := (blk_cell BK131.out 0).trans rfl; have hcz6_1 : w5.cell? ⟨gb131, 1, none⟩ = some (.string a0_1) := (blk_cell BK131.out 1).trans rfl; have hfz6_0 := blk_frozen BK131.out 0; have hfz6_1 := blk_frozen BK131.out 1) | ((with_reducible refine gate_callee (f := 76) rfl ?_); refine goesL_ (some 5) rfl rfl Tryz.func76 (by kernel_rfl) rfl #[.string a0_0] rfl (by (try simp only [List.map_toArray, List.map_cons, List.map_nil]); first | done | rfl | (simp only [List.length_drop, List.length_take]; rfl)) ?_; (with_reducible refine (octet_Token.calls a0_0 true _ ?side1 A2.out).mono ?_); (case side1 => first | exact hG | exact TabOk.drewN hG _ | exact TabOk.drewN (TabOk.drewN hG _) _ | exact TabOk.below hG (by repeat (first | (with_reducible first | exact HB.out | apply below_alloc | apply pw_below_drewN | apply below_drew1 | refine below_set ?_ GE131.out) | exact HB.out))); rintro e w7 ⟨rfl, hb⟩; refine ⟨_, rfl, ?_⟩; have n0_ := Aside0.mk (blk_below (g := gb131) (o := .cells #[.string a0_0, .string a0_1] 28 (0, 0)) (by (with_reducible repeat (first | refine blk_drewN ?_ _ | refine blk_drew ?_ | refine blk_alloc ?_ _)); exact BK131.out) hb); have n1_ := Aside0.mk (below_step (by repeat (first | (with_reducible first | exact HB.out | apply below_alloc | apply pw_below_drewN | apply below_drew1 | refine below_set ?_ GE131.out) | exact HB.out)) hb); clear BK131; clear HB; have BK131 := n0_; have HB := n1_; clear n0_ n1_; (try clear hb); (try clear hb2); (try clear hk); (try clear hi); have hcz8_0 : w7.cell? ⟨gb131, 0, none⟩ = some (.string a0_0) := (blk_cell BK131.out 0).trans rfl; have hcz8_1 : w7.cell? ⟨gb131, 1, none⟩ = some (.string a0_1) := (blk_cell BK131.out 1).trans rfl; have hfz8_0 := blk_frozen BK131.out 0; have hfz8_1 := blk_frozen BK131.out 1) | (go_at_call 95; (with_reducible refine (octet_Value.calls a0_1 t133 _ ?side1 A4.out).mono ?_); (case side1 => first | exact hG | exact TabOk.drewN hG _ | exact TabOk.drewN (TabOk.drewN hG _) _ | exact TabOk.below hG (by repeat (first | (with_reducible first | exact HB.out | apply below_alloc | apply pw_below_drewN | apply below_drew1 | refine below_set ?_ GE131.out) | exact HB.out))); rintro e w9 ⟨rfl, hb⟩; have n0_ := Aside0.mk (blk_below (g := gb131) (o := .cells #[.string a0_0, .string a0_1] 28 (0, 0)) (by (with_reducible repeat (first | refine blk_drewN ?_ _ | refine blk_drew ?_ | refine blk_alloc ?_ _)); exact BK131.out) hb); have n1_ := Aside0.mk (below_step (by repeat (first | (with_reducible first | exact HB.out | apply below_alloc | apply pw_below_drewN | apply below_drew1 | refine below_set ?_ GE131.out) | exact HB.out)) hb); clear BK131; clear HB; have BK131 := n0_; have HB := n1_; clear n0_ n1_; (try clear hb); (try clear hb2); (try clear hk); (try clear hi)))
    go_ret
    exact ⟨by first | rfl | (simp [errW_none, errW_some] <;> rfl) | (simp [*, errW_none, errW_some] <;> rfl), by repeat (first | (with_reducible first | exact HB.out | apply below_alloc | apply pw_below_drewN | apply below_drew1 | refine below_set ?_ GE131.out) | exact HB.out)⟩
  · replace c3 := Bool.eq_false_iff.mpr c3
    subst c3
    have H1 : (some false) = some r := by rw [if_neg (show ¬ (false = true) by decide)] at H; exact H
    clear H
    have H := H1
    clear H1
    obtain rfl := Option.some.inj H
    go_enter Tryz.func80, Tryz.ntmps80
    go_wp2_with (first | ((with_reducible refine gate_dst (N := 1) rfl ?_); refine box_event ?hg (N := 1) ?hd (cs := #[.string a0_0, .string a0_1]) (t := 28) ?hr ?_; (case hd => rfl); (case hg => rfl); (case hr => first | (go_simp; done) | (go_simp; rfl)); intro gb131 hg w10 hbox hb; have n0_ := Aside0.mk (below_step (by repeat (first | (with_reducible first | exact HB.out | apply below_alloc | apply pw_below_drewN | apply below_drew1) | exact HB.out)) hb); have n1_ := Aside0.mk (hbox); have n2_ := Aside0.mk ((by rw [hg]; exact (below_size (by repeat (first | (with_reducible first | exact HB.out | apply below_alloc | apply pw_below_drewN | apply below_drew1) | exact HB.out))) : w.heap.size ≤ gb131)); have n3_ := Aside0.mk ((by rw [hg]; exact (below_size (by repeat (first | (with_reducible first | exact HB.out | apply below_alloc | apply pw_below_drewN | apply below_drew1) | exact HB.out))) : w.heap.size ≤ gb131)); clear HB; have HB := n0_; have BK131 := n1_; have GW131 := n2_; have GE131 := n3_; clear n0_ n1_ n2_ n3_; clear hb hbox hg; have hcz11_0 : w10.cell? ⟨gb131, 0, none⟩ = some (.string a0_0) := (blk_cell BK131.out 0).trans rfl; have hcz11_1 : w10.cell? ⟨gb131, 1, none⟩ = some (.string a0_1) := (blk_cell BK131.out 1).trans rfl; have hfz11_0 := blk_frozen BK131.out 0; have hfz11_1 := blk_frozen BK131.out 1) | ((with_reducible refine gate_callee (f := 76) rfl ?_); refine goesL_ (some 5) rfl rfl Tryz.func76 (by kernel_rfl) rfl #[.string a0_0] rfl (by (try simp only [List.map_toArray, List.map_cons, List.map_nil]); first | done | rfl | (simp only [List.length_drop, List.length_take]; rfl)) ?_; (with_reducible refine (octet_Token.calls a0_0 false _ ?side1 A2.out).mono ?_); (case side1 => first | exact hG | exact TabOk.drewN hG _ | exact TabOk.drewN (TabOk.drewN hG _) _ | exact TabOk.below hG (by repeat (first | (with_reducible first | exact HB.out | apply below_alloc | apply pw_below_drewN | apply below_drew1 | refine below_set ?_ GE131.out) | exact HB.out))); rintro e w12 ⟨rfl, hb⟩; refine ⟨_, rfl, ?_⟩; have n0_ := Aside0.mk (blk_below (g := gb131) (o := .cells #[.string a0_0, .string a0_1] 28 (0, 0)) (by (with_reducible repeat (first | refine blk_drewN ?_ _ | refine blk_drew ?_ | refine blk_alloc ?_ _)); exact BK131.out) hb); have n1_ := Aside0.mk (below_step (by repeat (first | (with_reducible first | exact HB.out | apply below_alloc | apply pw_below_drewN | apply below_drew1 | refine below_set ?_ GE131.out) | exact HB.out)) hb); clear BK131; clear HB; have BK131 := n0_; have HB := n1_; clear n0_ n1_; (try clear hb); (try clear hb2); (try clear hk); (try clear hi)))
    go_ret
    exact ⟨by first | rfl | (simp [errW_none, errW_some] <;> rfl) | (simp [*, errW_none, errW_some] <;> rfl), by repeat (first | (with_reducible first | exact HB.out | apply below_alloc | apply pw_below_drewN | apply below_drew1 | refine below_set ?_ GE131.out) | exact HB.out)⟩
end Go.Proofs.YtmmbpbgcobmifaaGreatDoor.Pr
end
section
namespace Go.Proofs.YtmmbpbgcobmifaaGreatDoor.Pr
open Go.RowKit Go.Proofs.YtmmbpbgcobmifaaGreatDoorH Go.Proofs.YtmmbpbgcobmifaaGreatDoorW.PrintWords Go.Proofs.YtmmbpbgcobmifaaGreatDoorW.PrintLast Go.Proofs.YtmmbpbgcobmifaaGreatDoorW.PrintMore
attribute [local go_sem] max2_int min2_int max_two min_two max_three min_three max_four min_four   -- for this text's walks alone
set_option linter.unusedVariables false
set_option linter.unusedSimpArgs false
def field_Parse.f (a0 : ByteArray) : Option (ByteArray × ByteArray × Int) := (strings_Cut.f a0 (⟨#[58]⟩ : ByteArray)).bind fun bt135 => ((octet_Trim.f bt135.2.1).bind fun t138 => (if bt135.2.2 = true then ((field_Right.f bt135.1 t138).bind fun t140 => (if t140 = true then (some (bt135.1, t138, 0)) else (some ((⟨#[]⟩ : ByteArray), (⟨#[]⟩ : ByteArray), 2)))) else (some ((⟨#[]⟩ : ByteArray), (⟨#[]⟩ : ByteArray), 2))))
set_option maxHeartbeats 8000000 in
set_option maxRecDepth 100000 in
theorem field_Parse.calls (a0 : ByteArray) (r1 : ByteArray) (r2 : ByteArray) (r3 : Int) (w : World) (hG : TabOk w) (h : field_Parse.f a0 = some (r1, r2, r3)) :
    Calls Tryz.prog 64 #[.string a0] w fun e w' => e = .returned (.tuple #[.agg #[.string r1, .string r2], .int .i64 r3]) ∧ Below w.heap.size w w' := by
  have hu28 := Tryz.underlying28
  have HB := Aside0.mk (Below.refl w.heap.size w)
  have H : ((strings_Cut.f a0 (⟨#[58]⟩ : ByteArray)).bind fun bt135 => ((octet_Trim.f bt135.2.1).bind fun t138 => (if bt135.2.2 = true then ((field_Right.f bt135.1 t138).bind fun t140 => (if t140 = true then (some (bt135.1, t138, 0)) else (some ((⟨#[]⟩ : ByteArray), (⟨#[]⟩ : ByteArray), 2)))) else (some ((⟨#[]⟩ : ByteArray), (⟨#[]⟩ : ByteArray), 2))))) = some (r1, r2, r3) := h
  clear h
  replace H := Option.bind_eq_some_iff.mp H
  obtain ⟨⟨t135, t136, t137⟩, A20, H⟩ := H
  replace H : ((octet_Trim.f t136).bind fun t138 => (if t137 = true then ((field_Right.f t135 t138).bind fun t140 => (if t140 = true then (some (t135, t138, 0)) else (some ((⟨#[]⟩ : ByteArray), (⟨#[]⟩ : ByteArray), 2)))) else (some ((⟨#[]⟩ : ByteArray), (⟨#[]⟩ : ByteArray), 2)))) = some (r1, r2, r3) := H
  have A2 := Aside0.mk A20
  clear A20
  replace H := Option.bind_eq_some_iff.mp H
  obtain ⟨t138, A30, H⟩ := H
  replace H : (if t137 = true then ((field_Right.f t135 t138).bind fun t140 => (if t140 = true then (some (t135, t138, 0)) else (some ((⟨#[]⟩ : ByteArray), (⟨#[]⟩ : ByteArray), 2)))) else (some ((⟨#[]⟩ : ByteArray), (⟨#[]⟩ : ByteArray), 2))) = some (r1, r2, r3) := H
  have A3 := Aside0.mk A30
  clear A30
  by_cases c4 : t137 = true
  · subst c4
    have H1 : ((field_Right.f t135 t138).bind fun t140 => (if t140 = true then (some (t135, t138, 0)) else (some ((⟨#[]⟩ : ByteArray), (⟨#[]⟩ : ByteArray), 2)))) = some (r1, r2, r3) := by rw [if_pos rfl] at H; exact H
    clear H
    have H := H1
    clear H1
    replace H := Option.bind_eq_some_iff.mp H
    obtain ⟨t140, A50, H⟩ := H
    replace H : (if t140 = true then (some (t135, t138, 0)) else (some ((⟨#[]⟩ : ByteArray), (⟨#[]⟩ : ByteArray), 2))) = some (r1, r2, r3) := H
    have A5 := Aside0.mk A50
    clear A50
    by_cases c6 : t140 = true
    · subst c6
      have H1 : (some (t135, t138, 0)) = some (r1, r2, r3) := by rw [if_pos rfl] at H; exact H
      clear H
      have H := H1
      clear H1
      simp only [Option.some.injEq, Prod.mk.injEq] at H
      obtain ⟨rfl, rfl, rfl⟩ := H
      go_enter Tryz.func64, Tryz.ntmps64
      go_wp2_with (first | ((with_reducible refine gate_dst (N := 2) rfl ?_); refine box_event ?hg (N := 2) ?hd (cs := #[.string (⟨#[]⟩ : ByteArray), .string (⟨#[]⟩ : ByteArray)]) (t := 28) ?hr ?_; (case hd => rfl); (case hg => rfl); (case hr => first | (go_simp; done) | (go_simp; rfl)); intro gb134 hg w7 hbox hb; have n0_ := Aside0.mk (below_step (by repeat (first | (with_reducible first | exact HB.out | apply below_alloc | apply pw_below_drewN | apply below_drew1) | exact HB.out)) hb); have n1_ := Aside0.mk (hbox); have n2_ := Aside0.mk ((by rw [hg]; exact (below_size (by repeat (first | (with_reducible first | exact HB.out | apply below_alloc | apply pw_below_drewN | apply below_drew1) | exact HB.out))) : w.heap.size ≤ gb134)); have n3_ := Aside0.mk ((by rw [hg]; exact (below_size (by repeat (first | (with_reducible first | exact HB.out | apply below_alloc | apply pw_below_drewN | apply below_drew1) | exact HB.out))) : w.heap.size ≤ gb134)); clear HB; have HB := n0_; have BK134 := n1_; have GW134 := n2_; have GE134 := n3_; clear n0_ n1_ n2_ n3_; clear hb hbox hg) | ((with_reducible refine gate_callee (f := 78) rfl ?_); refine goesL_ (some 10) rfl rfl Tryz.func78 (by kernel_rfl) rfl #[.string a0, .string (⟨#[58]⟩ : ByteArray)] rfl (by (try simp only [List.map_toArray, List.map_cons, List.map_nil]); first | done | rfl | (simp only [List.length_drop, List.length_take]; rfl)) ?_; (with_reducible refine (strings_Cut.calls a0 (⟨#[58]⟩ : ByteArray) t135 t136 true _ ?side1 A2.out).mono ?_); (case side1 => first | exact hG | exact TabOk.drewN hG _ | exact TabOk.drewN (TabOk.drewN hG _) _ | exact TabOk.below hG (by repeat (first | (with_reducible first | exact HB.out | apply below_alloc | apply pw_below_drewN | apply below_drew1 | refine below_set ?_ GE134.out) | exact HB.out))); rintro e w8 ⟨rfl, hb⟩; refine ⟨_, rfl, ?_⟩; have n0_ := Aside0.mk (blk_below (g := gb134) (o := .cells #[.string (⟨#[]⟩ : ByteArray), .string (⟨#[]⟩ : ByteArray)] 28 (0, 0)) (by (with_reducible repeat (first | refine blk_drewN ?_ _ | refine blk_drew ?_ | refine blk_alloc ?_ _)); exact BK134.out) hb); have n1_ := Aside0.mk (below_step (by repeat (first | (with_reducible first | exact HB.out | apply below_alloc | apply pw_below_drewN | apply below_drew1 | refine below_set ?_ GE134.out) | exact HB.out)) hb); clear BK134; clear HB; have BK134 := n0_; have HB := n1_; clear n0_ n1_; (try clear hb); (try clear hb2); (try clear hk); (try clear hi)) | ((with_reducible refine gate_callee (f := 79) rfl ?_); refine goesL_ (some 16) rfl rfl Tryz.func79 (by kernel_rfl) rfl #[.string t136] rfl (by (try simp only [List.map_toArray, List.map_cons, List.map_nil]); first | done | rfl | (simp only [List.length_drop, List.length_take]; rfl)) ?_; (with_reducible refine (octet_Trim.calls t136 t138 _ ?side1 A3.out).mono ?_); (case side1 => first | exact hG | exact TabOk.drewN hG _ | exact TabOk.drewN (TabOk.drewN hG _) _ | exact TabOk.below hG (by repeat (first | (with_reducible first | exact HB.out | apply below_alloc | apply pw_below_drewN | apply below_drew1 | refine below_set ?_ GE134.out) | exact HB.out))); rintro e w9 ⟨rfl, hb⟩; refine ⟨_, rfl, ?_⟩; have n0_ := Aside0.mk (blk_below (g := gb134) (o := .cells #[.string (⟨#[]⟩ : ByteArray), .string (⟨#[]⟩ : ByteArray)] 28 (0, 0)) (by (with_reducible repeat (first | refine blk_drewN ?_ _ | refine blk_drew ?_ | refine blk_alloc ?_ _)); exact BK134.out) hb); have n1_ := Aside0.mk (below_step (by repeat (first | (with_reducible first | exact HB.out | apply below_alloc | apply pw_below_drewN | apply below_drew1 | refine below_set ?_ GE134.out) | exact HB.out)) hb); clear BK134; clear HB; have BK134 := n0_; have HB := n1_; clear n0_ n1_; (try clear hb); (try clear hb2); (try clear hk); (try clear hi)) | ((with_reducible refine gate_dst (N := 7) rfl ?_); refine box_event ?hg (N := 7) ?hd (cs := #[.string (⟨#[]⟩ : ByteArray), .string (⟨#[]⟩ : ByteArray)]) (t := 28) ?hr ?_; (case hd => rfl); (case hg => rfl); (case hr => first | (go_simp; done) | (go_simp; rfl)); intro gb139 hg w10 hbox hb; have n0_ := Aside0.mk (blk_below (g := gb134) (o := .cells #[.string (⟨#[]⟩ : ByteArray), .string (⟨#[]⟩ : ByteArray)] 28 (0, 0)) (by (with_reducible repeat (first | refine blk_drewN ?_ _ | refine blk_drew ?_ | refine blk_alloc ?_ _)); exact BK134.out) hb); have n1_ := Aside0.mk (below_step (by repeat (first | (with_reducible first | exact HB.out | apply below_alloc | apply pw_below_drewN | apply below_drew1 | refine below_set ?_ GE134.out) | exact HB.out)) hb); have n2_ := Aside0.mk (hbox); have n3_ := Aside0.mk ((by rw [hg]; exact (below_size (by repeat (first | (with_reducible first | exact HB.out | apply below_alloc | apply pw_below_drewN | apply below_drew1 | refine below_set ?_ GE134.out) | exact HB.out))) : w.heap.size ≤ gb139)); have n4_ := Aside0.mk ((by rw [hg]; exact (below_size (by repeat (first | (with_reducible first | exact HB.out | apply below_alloc | apply pw_below_drewN | apply below_drew1 | refine below_set ?_ GE134.out) | exact HB.out))) : w.heap.size ≤ gb139)); have n5_ := Aside0.mk ((by rw [hg]; exact Nat.ne_of_lt (blk_lt (g := gb134) (o := .cells #[.string (⟨#[]⟩ : ByteArray), .string (⟨#[]⟩ : ByteArray)] 28 (0, 0)) (by (with_reducible repeat (first | refine blk_drewN ?_ _ | refine blk_drew ?_ | refine blk_alloc ?_ _)); exact BK134.out)) : gb134 ≠ gb139)); have n6_ := Aside0.mk ((by rw [hg]; exact Nat.ne_of_gt (blk_lt (g := gb134) (o := .cells #[.string (⟨#[]⟩ : ByteArray), .string (⟨#[]⟩ : ByteArray)] 28 (0, 0)) (by (with_reducible repeat (first | refine blk_drewN ?_ _ | refine blk_drew ?_ | refine blk_alloc ?_ _)); exact BK134.out)) : gb139 ≠ gb134)); clear BK134; clear HB; have BK134 := n0_; have HB := n1_; have BK139 := n2_; have GW139 := n3_; have GE139 := n4_; have NB134_139 := n5_; have NB139_134 := n6_; clear n0_ n1_ n2_ n3_ n4_ n5_ n6_; clear hb hbox hg; have hnb11 := NB139_134.out; have hnc11 := NB134_139.out; have hcz12_0 : w10.cell? ⟨gb139, 0, none⟩ = some (.string (⟨#[]⟩ : ByteArray)) := (blk_cell BK139.out 0).trans rfl; have hcz12_1 : w10.cell? ⟨gb139, 1, none⟩ = some (.string (⟨#[]⟩ : ByteArray)) := (blk_cell BK139.out 1).trans rfl; have hfz12_0 := blk_frozen BK139.out 0; have hfz12_1 := blk_frozen BK139.out 1) | (go_at_call 80; (with_reducible refine (field_Right.calls t135 t138 true _ ?side1 A5.out).mono ?_); (case side1 => first | exact hG | exact TabOk.drewN hG _ | exact TabOk.drewN (TabOk.drewN hG _) _ | exact TabOk.below hG (by repeat (first | (with_reducible first | exact HB.out | apply below_alloc | apply pw_below_drewN | apply below_drew1 | refine below_set ?_ GE134.out | refine below_set ?_ GE139.out) | exact HB.out))); rintro e w13 ⟨rfl, hb⟩; have n0_ := Aside0.mk (blk_below (g := gb134) (o := .cells #[.string (⟨#[]⟩ : ByteArray), .string (⟨#[]⟩ : ByteArray)] 28 (0, 0)) (by (with_reducible repeat (first | refine blk_drewN ?_ _ | refine blk_drew ?_ | refine blk_alloc ?_ _)); refine blk_far ?_ NB134_139.out _; (with_reducible repeat (first | refine blk_drewN ?_ _ | refine blk_drew ?_ | refine blk_alloc ?_ _)); refine blk_far ?_ NB134_139.out _; (with_reducible repeat (first | refine blk_drewN ?_ _ | refine blk_drew ?_ | refine blk_alloc ?_ _)); exact BK134.out) hb); have n1_ := Aside0.mk (blk_below (g := gb139) (o := .cells #[.string t135, .string t138] 28 (0, 0)) (by (with_reducible repeat (first | refine blk_drewN ?_ _ | refine blk_drew ?_ | refine blk_alloc ?_ _)); refine blk_put (cs := #[.string t135, .string (⟨#[]⟩ : ByteArray)]) ?_ 1 _ rfl; (with_reducible repeat (first | refine blk_drewN ?_ _ | refine blk_drew ?_ | refine blk_alloc ?_ _)); refine blk_put (cs := #[.string (⟨#[]⟩ : ByteArray), .string (⟨#[]⟩ : ByteArray)]) ?_ 0 _ rfl; (with_reducible repeat (first | refine blk_drewN ?_ _ | refine blk_drew ?_ | refine blk_alloc ?_ _)); exact BK139.out) hb); have n2_ := Aside0.mk (below_step (by repeat (first | (with_reducible first | exact HB.out | apply below_alloc | apply pw_below_drewN | apply below_drew1 | refine below_set ?_ GE134.out | refine below_set ?_ GE139.out) | exact HB.out)) hb); clear BK134; clear BK139; clear HB; have BK134 := n0_; have BK139 := n1_; have HB := n2_; clear n0_ n1_ n2_; (try clear hb); (try clear hb2); (try clear hk); (try clear hi); have hcz14_0 : w13.cell? ⟨gb139, 0, none⟩ = some (.string t135) := (blk_cell BK139.out 0).trans rfl; have hcz14_1 : w13.cell? ⟨gb139, 1, none⟩ = some (.string t138) := (blk_cell BK139.out 1).trans rfl; have hfz14_0 := blk_frozen BK139.out 0; have hfz14_1 := blk_frozen BK139.out 1; have hcz15_0 : w13.cell? ⟨gb134, 0, none⟩ = some (.string (⟨#[]⟩ : ByteArray)) := (blk_cell BK134.out 0).trans rfl; have hcz15_1 : w13.cell? ⟨gb134, 1, none⟩ = some (.string (⟨#[]⟩ : ByteArray)) := (blk_cell BK134.out 1).trans rfl; have hfz15_0 := blk_frozen BK134.out 0; have hfz15_1 := blk_frozen BK134.out 1))
      refine bodyPost_ret (results_ct rfl _ _ gb134 28 #[.string t135, .string t138] (0, 0) _ rfl (by (with_reducible repeat (first | refine blk_drewN ?_ _ | refine blk_drew ?_ | refine blk_alloc ?_ _)); refine blk_put (cs := #[.string t135, .string (⟨#[]⟩ : ByteArray)]) ?_ 1 _ rfl; (with_reducible repeat (first | refine blk_drewN ?_ _ | refine blk_drew ?_ | refine blk_alloc ?_ _)); refine blk_put (cs := #[.string (⟨#[]⟩ : ByteArray), .string (⟨#[]⟩ : ByteArray)]) ?_ 0 _ rfl; (with_reducible repeat (first | refine blk_drewN ?_ _ | refine blk_drew ?_ | refine blk_alloc ?_ _)); exact BK134.out) Tryz.underlying28 rfl (by kernel_rfl)) rfl ?_
      exact ⟨by first | rfl | (simp [errW_none, errW_some] <;> rfl) | (simp [*, errW_none, errW_some] <;> rfl), by repeat (first | (with_reducible first | exact HB.out | apply below_alloc | apply pw_below_drewN | apply below_drew1 | refine below_set ?_ GE134.out | refine below_set ?_ GE139.out) | exact HB.out)⟩
    · replace c6 := Bool.eq_false_iff.mpr c6
      subst c6
      have H1 : (some ((⟨#[]⟩ : ByteArray), (⟨#[]⟩ : ByteArray), 2)) = some (r1, r2, r3) := by rw [if_neg (show ¬ (false = true) by decide)] at H; exact H
      clear H
      have H := H1
      clear H1
      simp only [Option.some.injEq, Prod.mk.injEq] at H
      obtain ⟨rfl, rfl, rfl⟩ := H
      go_enter Tryz.func64, Tryz.ntmps64
      go_wp2_with (first | ((with_reducible refine gate_dst (N := 2) rfl ?_); refine box_event ?hg (N := 2) ?hd (cs := #[.string (⟨#[]⟩ : ByteArray), .string (⟨#[]⟩ : ByteArray)]) (t := 28) ?hr ?_; (case hd => rfl); (case hg => rfl); (case hr => first | (go_simp; done) | (go_simp; rfl)); intro gb134 hg w16 hbox hb; have n0_ := Aside0.mk (below_step (by repeat (first | (with_reducible first | exact HB.out | apply below_alloc | apply pw_below_drewN | apply below_drew1) | exact HB.out)) hb); have n1_ := Aside0.mk (hbox); have n2_ := Aside0.mk ((by rw [hg]; exact (below_size (by repeat (first | (with_reducible first | exact HB.out | apply below_alloc | apply pw_below_drewN | apply below_drew1) | exact HB.out))) : w.heap.size ≤ gb134)); have n3_ := Aside0.mk ((by rw [hg]; exact (below_size (by repeat (first | (with_reducible first | exact HB.out | apply below_alloc | apply pw_below_drewN | apply below_drew1) | exact HB.out))) : w.heap.size ≤ gb134)); clear HB; have HB := n0_; have BK134 := n1_; have GW134 := n2_; have GE134 := n3_; clear n0_ n1_ n2_ n3_; clear hb hbox hg) | ((with_reducible refine gate_callee (f := 78) rfl ?_); refine goesL_ (some 10) rfl rfl Tryz.func78 (by kernel_rfl) rfl #[.string a0, .string (⟨#[58]⟩ : ByteArray)] rfl (by (try simp only [List.map_toArray, List.map_cons, List.map_nil]); first | done | rfl | (simp only [List.length_drop, List.length_take]; rfl)) ?_; (with_reducible refine (strings_Cut.calls a0 (⟨#[58]⟩ : ByteArray) t135 t136 true _ ?side1 A2.out).mono ?_); (case side1 => first | exact hG | exact TabOk.drewN hG _ | exact TabOk.drewN (TabOk.drewN hG _) _ | exact TabOk.below hG (by repeat (first | (with_reducible first | exact HB.out | apply below_alloc | apply pw_below_drewN | apply below_drew1 | refine below_set ?_ GE134.out) | exact HB.out))); rintro e w17 ⟨rfl, hb⟩; refine ⟨_, rfl, ?_⟩; have n0_ := Aside0.mk (blk_below (g := gb134) (o := .cells #[.string (⟨#[]⟩ : ByteArray), .string (⟨#[]⟩ : ByteArray)] 28 (0, 0)) (by (with_reducible repeat (first | refine blk_drewN ?_ _ | refine blk_drew ?_ | refine blk_alloc ?_ _)); exact BK134.out) hb); have n1_ := Aside0.mk (below_step (by repeat (first | (with_reducible first | exact HB.out | apply below_alloc | apply pw_below_drewN | apply below_drew1 | refine below_set ?_ GE134.out) | exact HB.out)) hb); clear BK134; clear HB; have BK134 := n0_; have HB := n1_; clear n0_ n1_; (try clear hb); (try clear hb2); (try clear hk); (try clear hi)) | ((with_reducible refine gate_callee (f := 79) rfl ?_); refine goesL_ (some 16) rfl rfl Tryz.func79 (by kernel_rfl) rfl #[.string t136] rfl (by (try simp only [List.map_toArray, List.map_cons, List.map_nil]); first | done | rfl | (simp only [List.length_drop, List.length_take]; rfl)) ?_; (with_reducible refine (octet_Trim.calls t136 t138 _ ?side1 A3.out).mono ?_); (case side1 => first | exact hG | exact TabOk.drewN hG _ | exact TabOk.drewN (TabOk.drewN hG _) _ | exact TabOk.below hG (by repeat (first | (with_reducible first | exact HB.out | apply below_alloc | apply pw_below_drewN | apply below_drew1 | refine below_set ?_ GE134.out) | exact HB.out))); rintro e w18 ⟨rfl, hb⟩; refine ⟨_, rfl, ?_⟩; have n0_ := Aside0.mk (blk_below (g := gb134) (o := .cells #[.string (⟨#[]⟩ : ByteArray), .string (⟨#[]⟩ : ByteArray)] 28 (0, 0)) (by (with_reducible repeat (first | refine blk_drewN ?_ _ | refine blk_drew ?_ | refine blk_alloc ?_ _)); exact BK134.out) hb); have n1_ := Aside0.mk (below_step (by repeat (first | (with_reducible first | exact HB.out | apply below_alloc | apply pw_below_drewN | apply below_drew1 | refine below_set ?_ GE134.out) | exact HB.out)) hb); clear BK134; clear HB; have BK134 := n0_; have HB := n1_; clear n0_ n1_; (try clear hb); (try clear hb2); (try clear hk); (try clear hi)) | ((with_reducible refine gate_dst (N := 7) rfl ?_); refine box_event ?hg (N := 7) ?hd (cs := #[.string (⟨#[]⟩ : ByteArray), .string (⟨#[]⟩ : ByteArray)]) (t := 28) ?hr ?_; (case hd => rfl); (case hg => rfl); (case hr => first | (go_simp; done) | (go_simp; rfl)); intro gb139 hg w19 hbox hb; have n0_ := Aside0.mk (blk_below (g := gb134) (o := .cells #[.string (⟨#[]⟩ : ByteArray), .string (⟨#[]⟩ : ByteArray)] 28 (0, 0)) (by (with_reducible repeat (first | refine blk_drewN ?_ _ | refine blk_drew ?_ | refine blk_alloc ?_ _)); exact BK134.out) hb); have n1_ := Aside0.mk (below_step (by repeat (first | (with_reducible first | exact HB.out | apply below_alloc | apply pw_below_drewN | apply below_drew1 | refine below_set ?_ GE134.out) | exact HB.out)) hb); have n2_ := Aside0.mk (hbox); have n3_ := Aside0.mk ((by rw [hg]; exact (below_size (by repeat (first | (with_reducible first | exact HB.out | apply below_alloc | apply pw_below_drewN | apply below_drew1 | refine below_set ?_ GE134.out) | exact HB.out))) : w.heap.size ≤ gb139)); have n4_ := Aside0.mk ((by rw [hg]; exact (below_size (by repeat (first | (with_reducible first | exact HB.out | apply below_alloc | apply pw_below_drewN | apply below_drew1 | refine below_set ?_ GE134.out) | exact HB.out))) : w.heap.size ≤ gb139)); have n5_ := Aside0.mk ((by rw [hg]; exact Nat.ne_of_lt (blk_lt (g := gb134) (o := .cells #[.string (⟨#[]⟩ : ByteArray), .string (⟨#[]⟩ : ByteArray)] 28 (0, 0)) (by (with_reducible repeat (first | refine blk_drewN ?_ _ | refine blk_drew ?_ | refine blk_alloc ?_ _)); exact BK134.out)) : gb134 ≠ gb139)); have n6_ := Aside0.mk ((by rw [hg]; exact Nat.ne_of_gt (blk_lt (g := gb134) (o := .cells #[.string (⟨#[]⟩ : ByteArray), .string (⟨#[]⟩ : ByteArray)] 28 (0, 0)) (by (with_reducible repeat (first | refine blk_drewN ?_ _ | refine blk_drew ?_ | refine blk_alloc ?_ _)); exact BK134.out)) : gb139 ≠ gb134)); clear BK134; clear HB; have BK134 := n0_; have HB := n1_; have BK139 := n2_; have GW139 := n3_; have GE139 := n4_; have NB134_139 := n5_; have NB139_134 := n6_; clear n0_ n1_ n2_ n3_ n4_ n5_ n6_; clear hb hbox hg; have hnb20 := NB139_134.out; have hnc20 := NB134_139.out; have hcz21_0 : w19.cell? ⟨gb139, 0, none⟩ = some (.string (⟨#[]⟩ : ByteArray)) := (blk_cell BK139.out 0).trans rfl; have hcz21_1 : w19.cell? ⟨gb139, 1, none⟩ = some (.string (⟨#[]⟩ : ByteArray)) := (blk_cell BK139.out 1).trans rfl; have hfz21_0 := blk_frozen BK139.out 0; have hfz21_1 := blk_frozen BK139.out 1) | (go_at_call 80; (with_reducible refine (field_Right.calls t135 t138 false _ ?side1 A5.out).mono ?_); (case side1 => first | exact hG | exact TabOk.drewN hG _ | exact TabOk.drewN (TabOk.drewN hG _) _ | exact TabOk.below hG (by repeat (first | (with_reducible first | exact HB.out | apply below_alloc | apply pw_below_drewN | apply below_drew1 | refine below_set ?_ GE134.out | refine below_set ?_ GE139.out) | exact HB.out))); rintro e w22 ⟨rfl, hb⟩; have n0_ := Aside0.mk (blk_below (g := gb134) (o := .cells #[.string (⟨#[]⟩ : ByteArray), .string (⟨#[]⟩ : ByteArray)] 28 (0, 0)) (by (with_reducible repeat (first | refine blk_drewN ?_ _ | refine blk_drew ?_ | refine blk_alloc ?_ _)); refine blk_far ?_ NB134_139.out _; (with_reducible repeat (first | refine blk_drewN ?_ _ | refine blk_drew ?_ | refine blk_alloc ?_ _)); refine blk_far ?_ NB134_139.out _; (with_reducible repeat (first | refine blk_drewN ?_ _ | refine blk_drew ?_ | refine blk_alloc ?_ _)); exact BK134.out) hb); have n1_ := Aside0.mk (blk_below (g := gb139) (o := .cells #[.string t135, .string t138] 28 (0, 0)) (by (with_reducible repeat (first | refine blk_drewN ?_ _ | refine blk_drew ?_ | refine blk_alloc ?_ _)); refine blk_put (cs := #[.string t135, .string (⟨#[]⟩ : ByteArray)]) ?_ 1 _ rfl; (with_reducible repeat (first | refine blk_drewN ?_ _ | refine blk_drew ?_ | refine blk_alloc ?_ _)); refine blk_put (cs := #[.string (⟨#[]⟩ : ByteArray), .string (⟨#[]⟩ : ByteArray)]) ?_ 0 _ rfl; (with_reducible repeat (first | refine blk_drewN ?_ _ | refine blk_drew ?_ | refine blk_alloc ?_ _)); exact BK139.out) hb); have n2_ := Aside0.mk (below_step (by repeat (first | (with_reducible first | exact HB.out | apply below_alloc | apply pw_below_drewN | apply below_drew1 | refine below_set ?_ GE134.out | refine below_set ?_ GE139.out) | exact HB.out)) hb); clear BK134; clear BK139; clear HB; have BK134 := n0_; have BK139 := n1_; have HB := n2_; clear n0_ n1_ n2_; (try clear hb); (try clear hb2); (try clear hk); (try clear hi); have hcz23_0 : w22.cell? ⟨gb134, 0, none⟩ = some (.string (⟨#[]⟩ : ByteArray)) := (blk_cell BK134.out 0).trans rfl; have hcz23_1 : w22.cell? ⟨gb134, 1, none⟩ = some (.string (⟨#[]⟩ : ByteArray)) := (blk_cell BK134.out 1).trans rfl; have hfz23_0 := blk_frozen BK134.out 0; have hfz23_1 := blk_frozen BK134.out 1))
      refine bodyPost_ret (results_ct rfl _ _ gb134 28 #[.string (⟨#[]⟩ : ByteArray), .string (⟨#[]⟩ : ByteArray)] (0, 0) _ rfl (by (with_reducible repeat (first | refine blk_drewN ?_ _ | refine blk_drew ?_ | refine blk_alloc ?_ _)); refine blk_put (cs := #[.string (⟨#[]⟩ : ByteArray), .string (⟨#[]⟩ : ByteArray)]) ?_ 1 _ rfl; (with_reducible repeat (first | refine blk_drewN ?_ _ | refine blk_drew ?_ | refine blk_alloc ?_ _)); refine blk_put (cs := #[.string (⟨#[]⟩ : ByteArray), .string (⟨#[]⟩ : ByteArray)]) ?_ 0 _ rfl; (with_reducible repeat (first | refine blk_drewN ?_ _ | refine blk_drew ?_ | refine blk_alloc ?_ _)); exact BK134.out) Tryz.underlying28 rfl (by kernel_rfl)) rfl ?_
      exact ⟨by first | rfl | (simp [errW_none, errW_some] <;> rfl) | (simp [*, errW_none, errW_some] <;> rfl), by repeat (first | (with_reducible first | exact HB.out | apply below_alloc | apply pw_below_drewN | apply below_drew1 | refine below_set ?_ GE134.out | refine below_set ?_ GE139.out) | exact HB.out)⟩
  · replace c4 := Bool.eq_false_iff.mpr c4
    subst c4
    have H1 : (some ((⟨#[]⟩ : ByteArray), (⟨#[]⟩ : ByteArray), 2)) = some (r1, r2, r3) := by rw [if_neg (show ¬ (false = true) by decide)] at H; exact H
    clear H
    have H := H1
    clear H1
    simp only [Option.some.injEq, Prod.mk.injEq] at H
    obtain ⟨rfl, rfl, rfl⟩ := H
    go_enter Tryz.func64, Tryz.ntmps64
    go_wp2_with (first | ((with_reducible refine gate_dst (N := 2) rfl ?_); refine box_event ?hg (N := 2) ?hd (cs := #[.string (⟨#[]⟩ : ByteArray), .string (⟨#[]⟩ : ByteArray)]) (t := 28) ?hr ?_; (case hd => rfl); (case hg => rfl); (case hr => first | (go_simp; done) | (go_simp; rfl)); intro gb134 hg w24 hbox hb; have n0_ := Aside0.mk (below_step (by repeat (first | (with_reducible first | exact HB.out | apply below_alloc | apply pw_below_drewN | apply below_drew1) | exact HB.out)) hb); have n1_ := Aside0.mk (hbox); have n2_ := Aside0.mk ((by rw [hg]; exact (below_size (by repeat (first | (with_reducible first | exact HB.out | apply below_alloc | apply pw_below_drewN | apply below_drew1) | exact HB.out))) : w.heap.size ≤ gb134)); have n3_ := Aside0.mk ((by rw [hg]; exact (below_size (by repeat (first | (with_reducible first | exact HB.out | apply below_alloc | apply pw_below_drewN | apply below_drew1) | exact HB.out))) : w.heap.size ≤ gb134)); clear HB; have HB := n0_; have BK134 := n1_; have GW134 := n2_; have GE134 := n3_; clear n0_ n1_ n2_ n3_; clear hb hbox hg) | ((with_reducible refine gate_callee (f := 78) rfl ?_); refine goesL_ (some 10) rfl rfl Tryz.func78 (by kernel_rfl) rfl #[.string a0, .string (⟨#[58]⟩ : ByteArray)] rfl (by (try simp only [List.map_toArray, List.map_cons, List.map_nil]); first | done | rfl | (simp only [List.length_drop, List.length_take]; rfl)) ?_; (with_reducible refine (strings_Cut.calls a0 (⟨#[58]⟩ : ByteArray) t135 t136 false _ ?side1 A2.out).mono ?_); (case side1 => first | exact hG | exact TabOk.drewN hG _ | exact TabOk.drewN (TabOk.drewN hG _) _ | exact TabOk.below hG (by repeat (first | (with_reducible first | exact HB.out | apply below_alloc | apply pw_below_drewN | apply below_drew1 | refine below_set ?_ GE134.out) | exact HB.out))); rintro e w25 ⟨rfl, hb⟩; refine ⟨_, rfl, ?_⟩; have n0_ := Aside0.mk (blk_below (g := gb134) (o := .cells #[.string (⟨#[]⟩ : ByteArray), .string (⟨#[]⟩ : ByteArray)] 28 (0, 0)) (by (with_reducible repeat (first | refine blk_drewN ?_ _ | refine blk_drew ?_ | refine blk_alloc ?_ _)); exact BK134.out) hb); have n1_ := Aside0.mk (below_step (by repeat (first | (with_reducible first | exact HB.out | apply below_alloc | apply pw_below_drewN | apply below_drew1 | refine below_set ?_ GE134.out) | exact HB.out)) hb); clear BK134; clear HB; have BK134 := n0_; have HB := n1_; clear n0_ n1_; (try clear hb); (try clear hb2); (try clear hk); (try clear hi)) | ((with_reducible refine gate_callee (f := 79) rfl ?_); refine goesL_ (some 16) rfl rfl Tryz.func79 (by kernel_rfl) rfl #[.string t136] rfl (by (try simp only [List.map_toArray, List.map_cons, List.map_nil]); first | done | rfl | (simp only [List.length_drop, List.length_take]; rfl)) ?_; (with_reducible refine (octet_Trim.calls t136 t138 _ ?side1 A3.out).mono ?_); (case side1 => first | exact hG | exact TabOk.drewN hG _ | exact TabOk.drewN (TabOk.drewN hG _) _ | exact TabOk.below hG (by repeat (first | (with_reducible first | exact HB.out | apply below_alloc | apply pw_below_drewN | apply below_drew1 | refine below_set ?_ GE134.out) | exact HB.out))); rintro e w26 ⟨rfl, hb⟩; refine ⟨_, rfl, ?_⟩; have n0_ := Aside0.mk (blk_below (g := gb134) (o := .cells #[.string (⟨#[]⟩ : ByteArray), .string (⟨#[]⟩ : ByteArray)] 28 (0, 0)) (by (with_reducible repeat (first | refine blk_drewN ?_ _ | refine blk_drew ?_ | refine blk_alloc ?_ _)); exact BK134.out) hb); have n1_ := Aside0.mk (below_step (by repeat (first | (with_reducible first | exact HB.out | apply below_alloc | apply pw_below_drewN | apply below_drew1 | refine below_set ?_ GE134.out) | exact HB.out)) hb); clear BK134; clear HB; have BK134 := n0_; have HB := n1_; clear n0_ n1_; (try clear hb); (try clear hb2); (try clear hk); (try clear hi)) | ((with_reducible refine gate_dst (N := 7) rfl ?_); refine box_event ?hg (N := 7) ?hd (cs := #[.string (⟨#[]⟩ : ByteArray), .string (⟨#[]⟩ : ByteArray)]) (t := 28) ?hr ?_; (case hd => rfl); (case hg => rfl); (case hr => first | (go_simp; done) | (go_simp; rfl)); intro gb139 hg w27 hbox hb; have n0_ := Aside0.mk (blk_below (g := gb134) (o := .cells #[.string (⟨#[]⟩ : ByteArray), .string (⟨#[]⟩ : ByteArray)] 28 (0, 0)) (by (with_reducible repeat (first | refine blk_drewN ?_ _ | refine blk_drew ?_ | refine blk_alloc ?_ _)); exact BK134.out) hb); have n1_ := Aside0.mk (below_step (by repeat (first | (with_reducible first | exact HB.out | apply below_alloc | apply pw_below_drewN | apply below_drew1 | refine below_set ?_ GE134.out) | exact HB.out)) hb); have n2_ := Aside0.mk (hbox); have n3_ := Aside0.mk ((by rw [hg]; exact (below_size (by repeat (first | (with_reducible first | exact HB.out | apply below_alloc | apply pw_below_drewN | apply below_drew1 | refine below_set ?_ GE134.out) | exact HB.out))) : w.heap.size ≤ gb139)); have n4_ := Aside0.mk ((by rw [hg]; exact (below_size (by repeat (first | (with_reducible first | exact HB.out | apply below_alloc | apply pw_below_drewN | apply below_drew1 | refine below_set ?_ GE134.out) | exact HB.out))) : w.heap.size ≤ gb139)); have n5_ := Aside0.mk ((by rw [hg]; exact Nat.ne_of_lt (blk_lt (g := gb134) (o := .cells #[.string (⟨#[]⟩ : ByteArray), .string (⟨#[]⟩ : ByteArray)] 28 (0, 0)) (by (with_reducible repeat (first | refine blk_drewN ?_ _ | refine blk_drew ?_ | refine blk_alloc ?_ _)); exact BK134.out)) : gb134 ≠ gb139)); have n6_ := Aside0.mk ((by rw [hg]; exact Nat.ne_of_gt (blk_lt (g := gb134) (o := .cells #[.string (⟨#[]⟩ : ByteArray), .string (⟨#[]⟩ : ByteArray)] 28 (0, 0)) (by (with_reducible repeat (first | refine blk_drewN ?_ _ | refine blk_drew ?_ | refine blk_alloc ?_ _)); exact BK134.out)) : gb139 ≠ gb134)); clear BK134; clear HB; have BK134 := n0_; have HB := n1_; have BK139 := n2_; have GW139 := n3_; have GE139 := n4_; have NB134_139 := n5_; have NB139_134 := n6_; clear n0_ n1_ n2_ n3_ n4_ n5_ n6_; clear hb hbox hg; have hnb28 := NB139_134.out; have hnc28 := NB134_139.out; have hcz29_0 : w27.cell? ⟨gb139, 0, none⟩ = some (.string (⟨#[]⟩ : ByteArray)) := (blk_cell BK139.out 0).trans rfl; have hcz29_1 : w27.cell? ⟨gb139, 1, none⟩ = some (.string (⟨#[]⟩ : ByteArray)) := (blk_cell BK139.out 1).trans rfl; have hfz29_0 := blk_frozen BK139.out 0; have hfz29_1 := blk_frozen BK139.out 1; have hcz30_0 : w27.cell? ⟨gb134, 0, none⟩ = some (.string (⟨#[]⟩ : ByteArray)) := (blk_cell BK134.out 0).trans rfl; have hcz30_1 : w27.cell? ⟨gb134, 1, none⟩ = some (.string (⟨#[]⟩ : ByteArray)) := (blk_cell BK134.out 1).trans rfl; have hfz30_0 := blk_frozen BK134.out 0; have hfz30_1 := blk_frozen BK134.out 1))
    refine bodyPost_ret (results_ct rfl _ _ gb134 28 #[.string (⟨#[]⟩ : ByteArray), .string (⟨#[]⟩ : ByteArray)] (0, 0) _ rfl (by (with_reducible repeat (first | refine blk_drewN ?_ _ | refine blk_drew ?_ | refine blk_alloc ?_ _)); refine blk_put (cs := #[.string (⟨#[]⟩ : ByteArray), .string (⟨#[]⟩ : ByteArray)]) ?_ 1 _ rfl; (with_reducible repeat (first | refine blk_drewN ?_ _ | refine blk_drew ?_ | refine blk_alloc ?_ _)); refine blk_put (cs := #[.string (⟨#[]⟩ : ByteArray), .string (⟨#[]⟩ : ByteArray)]) ?_ 0 _ rfl; (with_reducible repeat (first | refine blk_drewN ?_ _ | refine blk_drew ?_ | refine blk_alloc ?_ _)); refine blk_far ?_ NB134_139.out _; (with_reducible repeat (first | refine blk_drewN ?_ _ | refine blk_drew ?_ | refine blk_alloc ?_ _)); refine blk_far ?_ NB134_139.out _; (with_reducible repeat (first | refine blk_drewN ?_ _ | refine blk_drew ?_ | refine blk_alloc ?_ _)); exact BK134.out) Tryz.underlying28 rfl (by kernel_rfl)) rfl ?_
    exact ⟨by first | rfl | (simp [errW_none, errW_some] <;> rfl) | (simp [*, errW_none, errW_some] <;> rfl), by repeat (first | (with_reducible first | exact HB.out | apply below_alloc | apply pw_below_drewN | apply below_drew1 | refine below_set ?_ GE134.out | refine below_set ?_ GE139.out) | exact HB.out)⟩
end Go.Proofs.YtmmbpbgcobmifaaGreatDoor.Pr
end
section
namespace Go.Proofs.YtmmbpbgcobmifaaGreatDoor.Pr
open Go.RowKit Go.Proofs.YtmmbpbgcobmifaaGreatDoorH Go.Proofs.YtmmbpbgcobmifaaGreatDoorW.PrintWords Go.Proofs.YtmmbpbgcobmifaaGreatDoorW.PrintLast Go.Proofs.YtmmbpbgcobmifaaGreatDoorW.PrintMore
attribute [local go_sem] max2_int min2_int max_two min_two max_three min_three max_four min_four   -- for this text's walks alone
set_option linter.unusedVariables false
set_option linter.unusedSimpArgs false
mutual
def catchpitref05_Parse.j1 : Nat → ByteArray → Int → Option (ByteArray × ByteArray × Bool)
  | 0, _, _ => none
  | k + 1, x0, x4 => if x4 = (x0.size : Int) then (some ((⟨#[]⟩ : ByteArray), (⟨#[]⟩ : ByteArray), false)) else (if 0 ≤ x4 then (if x4 ≤ (x0.size : Int) then ((catchpitref02_Token.f k (x0.extract 0 (x4 : Int).toNat)).bind fun t161 => (if t161 = true then (if 0 ≤ (wrap64 (x4 + 1)) then (if (wrap64 (x4 + 1)) ≤ (x0.size : Int) then ((catchpitref02_Text.f k (x0.extract ((wrap64 (x4 + 1)) : Int).toNat x0.size)).bind fun t162 => (if t162 = true then ((catchpitref02_Trim.f k (x0.extract ((wrap64 (x4 + 1)) : Int).toNat x0.size)).bind fun t163 => (some (x0.extract 0 (x4 : Int).toNat, t163, true))) else (some ((⟨#[]⟩ : ByteArray), (⟨#[]⟩ : ByteArray), false)))) else (none)) else (none)) else (some ((⟨#[]⟩ : ByteArray), (⟨#[]⟩ : ByteArray), false)))) else (none)) else (none))
def catchpitref05_Parse.l0 : Nat → ByteArray → Int → Option (ByteArray × ByteArray × Bool)
  | 0, _, _ => none
  | k + 1, x0, x4 => if x4 < (x0.size : Int) then (if 0 ≤ x4 then (if (bt x0 x4) = 58 then (catchpitref05_Parse.j1 k x0 x4) else (catchpitref05_Parse.l0 k x0 (wrap64 (x4 + 1)))) else (none)) else (catchpitref05_Parse.j1 k x0 x4)
end
def catchpitref05_Parse.f (k : Nat) (a0 : ByteArray) : Option (ByteArray × ByteArray × Bool) := catchpitref05_Parse.l0 k a0 0
theorem catchpitref05_Parse.mono_l : ∀ k, (∀ y0 y1, LeO (catchpitref05_Parse.j1 k y0 y1) (catchpitref05_Parse.j1 (k + 1) y0 y1)) ∧ (∀ y0 y1, LeO (catchpitref05_Parse.l0 k y0 y1) (catchpitref05_Parse.l0 (k + 1) y0 y1))
  | 0 => ⟨fun _ _ r h => by simp [catchpitref05_Parse.j1] at h, fun _ _ r h => by simp [catchpitref05_Parse.l0] at h⟩
  | k + 1 => by
    obtain ⟨ih0, ih1⟩ := catchpitref05_Parse.mono_l k
    refine ⟨?_, ?_⟩
    · intro y0 y1
      unfold catchpitref05_Parse.j1
      repeat' first
      | (with_reducible exact ih0 _ _)
      | (with_reducible exact ih1 _ _)
      | (with_reducible exact catchpitref02_Text.mono _ _)
      | (with_reducible exact catchpitref02_Token.mono _ _)
      | (with_reducible exact catchpitref02_Trim.mono _ _)
      | (with_reducible exact LeO.refl _)
      | (with_reducible exact LeO.none _)
      | (with_reducible refine LeO.ite ?_ ?_)
      | (with_reducible refine LeO.bind ?_ (fun _ => ?_))
      | exact ih0 _ _
      | exact ih1 _ _
      | exact catchpitref02_Text.mono _ _
      | exact catchpitref02_Token.mono _ _
      | exact catchpitref02_Trim.mono _ _
      | exact LeO.none _
      | refine LeO.ite ?_ ?_
      | refine LeO.bind ?_ (fun _ => ?_)
    · intro y0 y1
      unfold catchpitref05_Parse.l0
      repeat' first
      | (with_reducible exact ih0 _ _)
      | (with_reducible exact ih1 _ _)
      | (with_reducible exact catchpitref02_Text.mono _ _)
      | (with_reducible exact catchpitref02_Token.mono _ _)
      | (with_reducible exact catchpitref02_Trim.mono _ _)
      | (with_reducible exact LeO.refl _)
      | (with_reducible exact LeO.none _)
      | (with_reducible refine LeO.ite ?_ ?_)
      | (with_reducible refine LeO.bind ?_ (fun _ => ?_))
      | exact ih0 _ _
      | exact ih1 _ _
      | exact catchpitref02_Text.mono _ _
      | exact catchpitref02_Token.mono _ _
      | exact catchpitref02_Trim.mono _ _
      | exact LeO.none _
      | refine LeO.ite ?_ ?_
      | refine LeO.bind ?_ (fun _ => ?_)
theorem catchpitref05_Parse.mono : ∀ a0 k, LeO (catchpitref05_Parse.f k a0) (catchpitref05_Parse.f (k + 1) a0) := by
  intro a0 k
  obtain ⟨ih0, ih1⟩ := catchpitref05_Parse.mono_l k
  unfold catchpitref05_Parse.f
  repeat' first
      | (with_reducible exact ih0 _ _)
      | (with_reducible exact ih1 _ _)
      | (with_reducible exact catchpitref02_Text.mono _ _)
      | (with_reducible exact catchpitref02_Token.mono _ _)
      | (with_reducible exact catchpitref02_Trim.mono _ _)
      | (with_reducible exact LeO.refl _)
      | (with_reducible exact LeO.none _)
      | (with_reducible refine LeO.ite ?_ ?_)
      | (with_reducible refine LeO.bind ?_ (fun _ => ?_))
      | exact ih0 _ _
      | exact ih1 _ _
      | exact catchpitref02_Text.mono _ _
      | exact catchpitref02_Token.mono _ _
      | exact catchpitref02_Trim.mono _ _
      | exact LeO.none _
      | refine LeO.ite ?_ ?_
      | refine LeO.bind ?_ (fun _ => ?_)
end Go.Proofs.YtmmbpbgcobmifaaGreatDoor.Pr
end
section
namespace Go.Proofs.YtmmbpbgcobmifaaGreatDoor.Pr
open Go.RowKit Go.Proofs.YtmmbpbgcobmifaaGreatDoorH Go.Proofs.YtmmbpbgcobmifaaGreatDoorW.PrintWords Go.Proofs.YtmmbpbgcobmifaaGreatDoorW.PrintLast Go.Proofs.YtmmbpbgcobmifaaGreatDoorW.PrintMore
attribute [local go_sem] max2_int min2_int max_two min_two max_three min_three max_four min_four   -- for this text's walks alone
set_option linter.unusedVariables false
set_option linter.unusedSimpArgs false
def catchpitref05_Right.f (k : Nat) (a0_0 : ByteArray) (a0_1 : ByteArray) : Option (Bool) := (catchpitref02_Token.f k a0_0).bind fun t112 => (if t112 = true then ((catchpitref02_Value.f k a0_1).bind fun t113 => (some t113)) else (some false))
theorem catchpitref05_Right.mono : ∀ a0 a1 k, LeO (catchpitref05_Right.f k a0 a1) (catchpitref05_Right.f (k + 1) a0 a1) := by
  intro a0 a1 k
  unfold catchpitref05_Right.f
  repeat' first
      | (with_reducible exact catchpitref02_Token.mono _ _)
      | (with_reducible exact catchpitref02_Value.mono _ _)
      | (with_reducible exact LeO.refl _)
      | (with_reducible exact LeO.none _)
      | (with_reducible refine LeO.ite ?_ ?_)
      | (with_reducible refine LeO.bind ?_ (fun _ => ?_))
      | exact catchpitref02_Token.mono _ _
      | exact catchpitref02_Value.mono _ _
      | exact LeO.none _
      | refine LeO.ite ?_ ?_
      | refine LeO.bind ?_ (fun _ => ?_)
set_option maxHeartbeats 8000000 in
set_option maxRecDepth 100000 in
theorem catchpitref05_Right.calls (k : Nat) (a0_0 : ByteArray) (a0_1 : ByteArray) (r : Bool) (w : World) (hG : TabOk w) (h : catchpitref05_Right.f k a0_0 a0_1 = some r) :
    Calls Tryz.prog 7 #[.agg #[.string a0_0, .string a0_1]] w fun e w' => e = .returned (.bool r) ∧ Below w.heap.size w w' := by
  have hu28 := Tryz.underlying28
  have HB := Aside0.mk (Below.refl w.heap.size w)
  have H : ((catchpitref02_Token.f k a0_0).bind fun t112 => (if t112 = true then ((catchpitref02_Value.f k a0_1).bind fun t113 => (some t113)) else (some false))) = some r := h
  clear h
  replace H := Option.bind_eq_some_iff.mp H
  obtain ⟨t112, A20, H⟩ := H
  replace H : (if t112 = true then ((catchpitref02_Value.f k a0_1).bind fun t113 => (some t113)) else (some false)) = some r := H
  have A2 := Aside0.mk A20
  clear A20
  by_cases c3 : t112 = true
  · subst c3
    have H1 : ((catchpitref02_Value.f k a0_1).bind fun t113 => (some t113)) = some r := by rw [if_pos rfl] at H; exact H
    clear H
    have H := H1
    clear H1
    replace H := Option.bind_eq_some_iff.mp H
    obtain ⟨t113, A40, H⟩ := H
    replace H : (some t113) = some r := H
    have A4 := Aside0.mk A40
    clear A40
    obtain rfl := Option.some.inj H
    go_enter Tryz.func7, Tryz.ntmps7
    go_wp2_with (first | ((with_reducible refine gate_dst (N := 1) rfl ?_); refine box_event ?hg (N := 1) ?hd (cs := #[.string a0_0, .string a0_1]) (t := 28) ?hr ?_; (case hd => rfl); (case hg => rfl); (case hr => first | (go_simp; done) | (go_simp; rfl)); intro gb111 hg w5 hbox hb; have n0_ := Aside0.mk (below_step (by repeat (first | (with_reducible first | exact HB.out | apply below_alloc | apply pw_below_drewN | apply below_drew1) | exact HB.out)) hb); have n1_ := Aside0.mk (hbox); have n2_ := Aside0.mk ((by rw [hg]; exact (below_size (by repeat (first | (with_reducible first | exact HB.out | apply below_alloc | apply pw_below_drewN | apply below_drew1) | exact HB.out))) : w.heap.size ≤ gb111)); have n3_ := Aside0.mk ((by rw [hg]; exact (below_size (by repeat (first | (with_reducible first | exact HB.out | apply below_alloc | apply pw_below_drewN | apply below_drew1) | exact HB.out))) : w.heap.size ≤ gb111)); clear HB; have HB := n0_; have BK111 := n1_; have GW111 := n2_; have GE111 := n3_; clear n0_ n1_ n2_ n3_; clear hb hbox hg; have hcz6_0 : w5.cell? ⟨gb111, 0, none⟩ = some (.string a0_0) := (blk_cell BK111.out 0).trans rfl; have hcz6_1 : w5.cell? ⟨gb111, 1, none⟩ = some (.string a0_1) := (blk_cell BK111.out 1).trans rfl; have hfz6_0 := blk_frozen BK111.out 0; have hfz6_1 := blk_frozen BK111.out 1) | ((with_reducible refine gate_callee (f := 20) rfl ?_); refine goesL_ (some 5) rfl rfl Tryz.func20 (by kernel_rfl) rfl #[.string a0_0] rfl (by (try simp only [List.map_toArray, List.map_cons, List.map_nil]); first | done | rfl | (simp only [List.length_drop, List.length_take]; rfl)) ?_; (with_reducible refine (catchpitref02_Token.calls k a0_0 true _ ?side1 A2.out).mono ?_); (case side1 => first | exact hG | exact TabOk.drewN hG _ | exact TabOk.drewN (TabOk.drewN hG _) _ | exact TabOk.below hG (by repeat (first | (with_reducible first | exact HB.out | apply below_alloc | apply pw_below_drewN | apply below_drew1 | refine below_set ?_ GE111.out) | exact HB.out))); rintro e w' ⟨rfl, ⟨nd, rfl⟩⟩; refine ⟨_, rfl, ?_⟩) | (go_at_call 21; (with_reducible refine (catchpitref02_Value.calls k a0_1 t113 _ ?side1 A4.out).mono ?_); (case side1 => first | exact hG | exact TabOk.drewN hG _ | exact TabOk.drewN (TabOk.drewN hG _) _ | exact TabOk.below hG (by repeat (first | (with_reducible first | exact HB.out | apply below_alloc | apply pw_below_drewN | apply below_drew1 | refine below_set ?_ GE111.out) | exact HB.out))); rintro e w' ⟨rfl, ⟨nd, rfl⟩⟩))
    go_ret
    exact ⟨by first | rfl | (simp [errW_none, errW_some] <;> rfl) | (simp [*, errW_none, errW_some] <;> rfl), by repeat (first | (with_reducible first | exact HB.out | apply below_alloc | apply pw_below_drewN | apply below_drew1 | refine below_set ?_ GE111.out) | exact HB.out)⟩
  · replace c3 := Bool.eq_false_iff.mpr c3
    subst c3
    have H1 : (some false) = some r := by rw [if_neg (show ¬ (false = true) by decide)] at H; exact H
    clear H
    have H := H1
    clear H1
    obtain rfl := Option.some.inj H
    go_enter Tryz.func7, Tryz.ntmps7
    go_wp2_with (first | ((with_reducible refine gate_dst (N := 1) rfl ?_); refine box_event ?hg (N := 1) ?hd (cs := #[.string a0_0, .string a0_1]) (t := 28) ?hr ?_; (case hd => rfl); (case hg => rfl); (case hr => first | (go_simp; done) | (go_simp; rfl)); intro gb111 hg w7 hbox hb; have n0_ := Aside0.mk (below_step (by repeat (first | (with_reducible first | exact HB.out | apply below_alloc | apply pw_below_drewN | apply below_drew1) | exact HB.out)) hb); have n1_ := Aside0.mk (hbox); have n2_ := Aside0.mk ((by rw [hg]; exact (below_size (by repeat (first | (with_reducible first | exact HB.out | apply below_alloc | apply pw_below_drewN | apply below_drew1) | exact HB.out))) : w.heap.size ≤ gb111)); have n3_ := Aside0.mk ((by rw [hg]; exact (below_size (by repeat (first | (with_reducible first | exact HB.out | apply below_alloc | apply pw_below_drewN | apply below_drew1) | exact HB.out))) : w.heap.size ≤ gb111)); clear HB; have HB := n0_; have BK111 := n1_; have GW111 := n2_; have GE111 := n3_; clear n0_ n1_ n2_ n3_; clear hb hbox hg; have hcz8_0 : w7.cell? ⟨gb111, 0, none⟩ = some (.string a0_0) := (blk_cell BK111.out 0).trans rfl; have hcz8_1 : w7.cell? ⟨gb111, 1, none⟩ = some (.string a0_1) := (blk_cell BK111.out 1).trans rfl; have hfz8_0 := blk_frozen BK111.out 0; have hfz8_1 := blk_frozen BK111.out 1) | ((with_reducible refine gate_callee (f := 20) rfl ?_); refine goesL_ (some 5) rfl rfl Tryz.func20 (by kernel_rfl) rfl #[.string a0_0] rfl (by (try simp only [List.map_toArray, List.map_cons, List.map_nil]); first | done | rfl | (simp only [List.length_drop, List.length_take]; rfl)) ?_; (with_reducible refine (catchpitref02_Token.calls k a0_0 false _ ?side1 A2.out).mono ?_); (case side1 => first | exact hG | exact TabOk.drewN hG _ | exact TabOk.drewN (TabOk.drewN hG _) _ | exact TabOk.below hG (by repeat (first | (with_reducible first | exact HB.out | apply below_alloc | apply pw_below_drewN | apply below_drew1 | refine below_set ?_ GE111.out) | exact HB.out))); rintro e w' ⟨rfl, ⟨nd, rfl⟩⟩; refine ⟨_, rfl, ?_⟩))
    go_ret
    exact ⟨by first | rfl | (simp [errW_none, errW_some] <;> rfl) | (simp [*, errW_none, errW_some] <;> rfl), by repeat (first | (with_reducible first | exact HB.out | apply below_alloc | apply pw_below_drewN | apply below_drew1 | refine below_set ?_ GE111.out) | exact HB.out)⟩
end Go.Proofs.YtmmbpbgcobmifaaGreatDoor.Pr
end
section
namespace Go.Proofs.YtmmbpbgcobmifaaGreatDoor.Pr
end Go.Proofs.YtmmbpbgcobmifaaGreatDoor.Pr
namespace Go.Proofs.YtmmbpbgcobmifaaGreatDoorH
open Go.RowKit Go.Proofs.YtmmbpbgcobmifaaGreatDoorW.PrintWords Go.Proofs.YtmmbpbgcobmifaaGreatDoorW.PrintLast Go.Proofs.YtmmbpbgcobmifaaGreatDoorW.PrintMore Go.Proofs.YtmmbpbgcobmifaaGreatDoor.Pr
def colon (s : ByteArray) : Nat := s.data.toList.findIdx (· == 58)
theorem indexByte_findIdx : ∀ (l : List UInt8) (c : UInt8), Lib.indexByte l c = if l.findIdx (· == c) < l.length then ((l.findIdx (· == c) : Nat) : Int) else -1
  | [], c => rfl
  | b :: l, c => by
    unfold Lib.indexByte
    rw [List.findIdx_cons, indexByte_findIdx l c]
    cases h : b == c with
    | true => simp
    | false =>
      simp only [cond_false, List.length_cons]
      by_cases h2 : l.findIdx (· == c) < l.length
      · have e1 : (((List.findIdx (· == c) l : Nat) : Int) == -1) = false := by rw [beq_eq_false_iff_ne]; omega
        have e2 : List.findIdx (· == c) l + 1 < l.length + 1 := by omega
        simp only [if_pos h2, if_pos e2, e1, Bool.false_eq_true, if_false]
        omega
      · have e2 : ¬ List.findIdx (· == c) l + 1 < l.length + 1 := by omega
        simp only [if_neg h2, if_neg e2]
        rfl
theorem cut_colon (s : ByteArray) : Lib.cut s.data.toList (⟨#[58]⟩ : ByteArray).data.toList =
    if colon s < s.size then (s.data.toList.take (colon s), s.data.toList.drop (colon s + 1), true) else (s.data.toList, [], false) := by
  have e : Lib.index s.data.toList (⟨#[58]⟩ : ByteArray).data.toList = if colon s < s.size then ((colon s : Nat) : Int) else -1 := by
    rw [size_eq_length]
    exact (Lib.index_one _ _).trans (indexByte_findIdx _ _)
  unfold Lib.cut
  rw [e]
  by_cases h : colon s < s.size
  · rw [if_pos h, if_pos h, if_pos (by omega)]
    rfl
  · rw [if_neg h, if_neg h, if_neg (by omega)]
def nameOf (s : ByteArray) : ByteArray := s.extract 0 (colon s)
def restOf (s : ByteArray) : ByteArray := s.extract (colon s + 1) s.size
def lineB (s : ByteArray) : Bool := decide (colon s < s.size) && (tokB (nameOf s) && allB textI (restOf s))
def parseF (s : ByteArray) : ByteArray := if lineB s then nameOf s else ⟨#[]⟩
def parseV (s : ByteArray) : ByteArray := if lineB s then trimS (restOf s) else ⟨#[]⟩
theorem nameOf_size (s : ByteArray) : (nameOf s).size ≤ s.size := by
  rw [size_eq_length, size_eq_length, nameOf, extract_to, List.length_take]
  omega
theorem restOf_size (s : ByteArray) : (restOf s).size ≤ s.size := by
  rw [size_eq_length, size_eq_length, restOf, extract_from, List.length_drop]
  omega
theorem all_dropWhile {p q : UInt8 → Bool} (hpq : ∀ x, p x = true → q x = true) : ∀ l : List UInt8, (l.dropWhile p).all q = l.all q
  | [] => rfl
  | a :: l => by
    cases h : p a with
    | true => rw [List.dropWhile_cons_of_pos h, all_dropWhile hpq l, List.all_cons, hpq a h, Bool.true_and]
    | false => rw [List.dropWhile_cons_of_neg (by simp [h])]
theorem all_rtrim {p q : UInt8 → Bool} (hpq : ∀ x, p x = true → q x = true) (l : List UInt8) : (rtrim p l).all q = l.all q := by
  unfold rtrim
  rw [List.all_reverse, all_dropWhile hpq, List.all_reverse]
theorem text_trim (s : ByteArray) : allB textI (trimS s) = allB textI s := by
  have h : ∀ x : UInt8, blankU x = true → textI (x.toNat : Int) = true := fun x hx => by
    unfold textI
    rw [blankU_int, hx, Bool.true_or]
  unfold allB
  rw [trimS_data, trimL_eq, all_dropWhile h, all_rtrim h]
def valueB (s : ByteArray) : Bool := allB textI s && decide (trimS s = s)
def rightB (a b : ByteArray) : Bool := tokB a && valueB b
theorem value_trim (s : ByteArray) : valueB (trimS s) = allB textI s := by
  unfold valueB
  rw [text_trim, trimS_idem]
  simp
theorem octet_Value_eq (a : ByteArray) (hs : a.size ≤ 140737488355328) : octet_Value.f a = some (valueB a) := by
  unfold octet_Value.f octet_Text.f octet_Trim.f
  simp only [if_pos hs, Option.bind_some]
  unfold valueB
  cases allB textI a with
  | false => rfl
  | true => rw [if_pos rfl, beq_toList, Bool.true_and]
theorem field_Right_eq (a b : ByteArray) (ha : a.size ≤ 140737488355328) (hb : b.size ≤ 140737488355328) : field_Right.f a b = some (rightB a b) := by
  unfold field_Right.f octet_Token.f
  rw [if_pos ha, Option.bind_some, octet_Value_eq b hb, Option.bind_some]
  unfold rightB
  cases tokB a with
  | false => rfl
  | true => rw [if_pos rfl, Bool.true_and]
theorem field_Parse_eq (s : ByteArray) (hs : s.size < 4294967281) : field_Parse.f s = some (parseF s, parseV s, if lineB s then 0 else 2) := by
  unfold field_Parse.f strings_Cut.f octet_Trim.f
  rw [if_pos hs, Option.bind_some, cut_colon]
  by_cases hc : colon s < s.size
  · rw [if_pos hc]
    have e1 : (⟨(s.data.toList.take (colon s)).toArray⟩ : ByteArray) = nameOf s := bytes_ext (by rw [nameOf, extract_to])
    have e2 : (⟨(s.data.toList.drop (colon s + 1)).toArray⟩ : ByteArray) = restOf s := bytes_ext (by rw [restOf, extract_from])
    have h1 := nameOf_size s
    have h2 := restOf_size s
    have h3 := trimS_size (restOf s)
    simp only [e1, e2]
    rw [if_pos (by omega), Option.bind_some, if_pos trivial, field_Right_eq _ _ (by omega) (by omega), Option.bind_some]
    have hl : lineB s = rightB (nameOf s) (trimS (restOf s)) := by
      unfold lineB rightB
      rw [value_trim, decide_eq_true hc, Bool.true_and]
    unfold parseF parseV
    rw [hl]
    cases rightB (nameOf s) (trimS (restOf s)) <;> rfl
  · rw [if_neg hc]
    have hl : lineB s = false := by
      unfold lineB
      rw [decide_eq_false hc, Bool.false_and]
    have h0 : (⟨#[]⟩ : ByteArray).size ≤ 140737488355328 := by decide
    unfold parseF parseV
    rw [hl]
    simp only [if_pos h0, Option.bind_some, Bool.false_eq_true, if_false]
theorem ref05_Right (a b : ByteArray) (ha : a.size ≤ 140737488355328) (hb : b.size ≤ 140737488355328) : Ev (fun k => catchpitref05_Right.f k a b) (rightB a b) := by
  obtain ⟨K1, h1⟩ := ref02_Token a ha
  obtain ⟨K2, h2⟩ := ref02_Value b hb
  refine ⟨K1 + K2, fun k hk => ?_⟩
  have h1 := h1 k (by omega)
  have h2 := h2 k (by omega)
  simp only at h1 h2
  show catchpitref05_Right.f k a b = _
  rw [catchpitref05_Right.f, h1, Option.bind_some, h2]
  unfold rightB valueB
  cases tokB a <;> rfl
end Go.Proofs.YtmmbpbgcobmifaaGreatDoorH
end
section
namespace Go.Proofs.YtmmbpbgcobmifaaGreatDoor.Pr
open Go.RowKit Go.Proofs.YtmmbpbgcobmifaaGreatDoorH Go.Proofs.YtmmbpbgcobmifaaGreatDoorW.PrintWords Go.Proofs.YtmmbpbgcobmifaaGreatDoorW.PrintLast Go.Proofs.YtmmbpbgcobmifaaGreatDoorW.PrintMore
attribute [local go_sem] max2_int min2_int max_two min_two max_three min_three max_four min_four   -- for this text's walks alone
set_option linter.unusedVariables false
set_option linter.unusedSimpArgs false
def block_next.f (a0 : Int) (a1 : Int) : Option (Int × Bool) := (some (([a1] : List Int) : List Int)).bind fun y123 => (if a0 = 0 then (if a1 = 13 then (some (4, true)) else ((octet_Token.f (strOfNums y123)).bind fun t126 => (some (1, t126)))) else (if a0 = 1 then (if a1 = 58 then (some (2, true)) else ((octet_Token.f (strOfNums y123)).bind fun t127 => (some (1, t127)))) else (if a0 = 2 then (if a1 = 13 then (some (3, true)) else ((octet_Text.f (strOfNums y123)).bind fun t128 => (some (2, t128)))) else (if a0 = 3 then (some (0, (a1 == 10))) else (if a0 = 4 then (some (5, (a1 == 10))) else (some (5, false)))))))
set_option maxHeartbeats 8000000 in
set_option maxRecDepth 100000 in
theorem block_next.calls (a0 : Int) (a1 : Int) (r1 : Int) (r2 : Bool) (w : World) (hG : TabOk w) (h : block_next.f a0 a1 = some (r1, r2)) :
    Calls Tryz.prog 62 #[.int .i64 a0, .int .u8 a1] w fun e w' => e = .returned (.tuple #[.int .i64 r1, .bool r2]) ∧ Below w.heap.size w w' := by
  have HB := Aside0.mk (Below.refl w.heap.size w)
  have H : ((some (([a1] : List Int) : List Int)).bind fun y123 => (if a0 = 0 then (if a1 = 13 then (some (4, true)) else ((octet_Token.f (strOfNums y123)).bind fun t126 => (some (1, t126)))) else (if a0 = 1 then (if a1 = 58 then (some (2, true)) else ((octet_Token.f (strOfNums y123)).bind fun t127 => (some (1, t127)))) else (if a0 = 2 then (if a1 = 13 then (some (3, true)) else ((octet_Text.f (strOfNums y123)).bind fun t128 => (some (2, t128)))) else (if a0 = 3 then (some (0, (a1 == 10))) else (if a0 = 4 then (some (5, (a1 == 10))) else (some (5, false)))))))) = some (r1, r2) := h
  clear h
  obtain ⟨y123, hy123⟩ : ∃ y_ : List Int, y_ = (([a1] : List Int)) := ⟨_, rfl⟩
  replace H : (if a0 = 0 then (if a1 = 13 then (some (4, true)) else ((octet_Token.f (strOfNums y123)).bind fun t126 => (some (1, t126)))) else (if a0 = 1 then (if a1 = 58 then (some (2, true)) else ((octet_Token.f (strOfNums y123)).bind fun t127 => (some (1, t127)))) else (if a0 = 2 then (if a1 = 13 then (some (3, true)) else ((octet_Text.f (strOfNums y123)).bind fun t128 => (some (2, t128)))) else (if a0 = 3 then (some (0, (a1 == 10))) else (if a0 = 4 then (some (5, (a1 == 10))) else (some (5, false))))))) = some (r1, r2) := by first | (rw [hy123]; with_reducible exact H) | (have H2_ := (Option.bind_some _ _).symm.trans H; rw [hy123]; with_reducible exact H2_) | (have H2_ := (Option.bind_some _ _).symm.trans H; with_reducible exact H2_) | with_reducible exact H | (rw [hy123]; exact H) | exact H
  have Ny123 := Aside0.mk hy123
  clear hy123
  by_cases c3 : a0 = 0
  · rw [if_pos c3] at H
    have c3b0 : (a0 == 0) = true := beq_iff_eq.mpr c3
    have c3b1 : (a0 != 0) = false := bne_eq_false_iff_eq.mpr c3
    clear c3
    by_cases c4 : a1 = 13
    · rw [if_pos c4] at H
      have c4b0 : (a1 == 13) = true := beq_iff_eq.mpr c4
      have c4b1 : (a1 != 13) = false := bne_eq_false_iff_eq.mpr c4
      clear c4
      simp only [Option.some.injEq, Prod.mk.injEq] at H
      obtain ⟨rfl, rfl⟩ := H
      go_enter Tryz.func62, Tryz.ntmps62
      go_wp2_with (first | ((with_reducible refine gate_dst (N := 8) rfl ?_); refine Kd.R_lit (Kd.int .u8) _ 5 ?hg (N := 8) ?hd (xs := ([a1] : List Int)) (inner := [.int .u8 a1]) (ok := fun _ => True) (okp := fun _ => True) ?hr ?hp (fun _ hk => hk) trivial (Below.refl _ _) (Nat.le_refl _) (by simp) ?_; (case hd => rfl); (case hg => rfl); (case hr => first | (go_simp; done) | (go_simp; rfl)); (case hp => exact (Reps.one (show Kd.M (Kd.int .u8) _ _ _ a1 [.int .u8 a1] from rfl) (Reps.none _ _))); intro v124 w5 ho6 hb hg_ hnew_; clear hg_ hnew_; (first | rw [← Ny123.out] at ho6 | (simp only [Int.reduceToNat] at ho6; rw [← Ny123.out] at ho6)); have n0_ := Aside0.mk (Kd.R_lower ho6 (below_size (by repeat (first | (with_reducible first | exact HB.out | apply below_alloc | apply pw_below_drewN | apply below_drew1) | exact HB.out)))); have n1_ := Aside0.mk (below_step (by repeat (first | (with_reducible first | exact HB.out | apply below_alloc | apply pw_below_drewN | apply below_drew1) | exact HB.out)) hb); clear HB; have HO125 := n0_; have HB := n1_; clear n0_ n1_; clear hb ho6; have hcv7 := own_string (P := Tryz.prog) Tryz.underlying25 Tryz.underlying5 Tryz.underlying9 (Kd.own_of_R HO125.out)))
      go_ret2
      exact ⟨by first | rfl | (simp [errW_none, errW_some] <;> rfl) | (simp [*, errW_none, errW_some] <;> rfl), by repeat (first | (with_reducible first | exact HB.out | apply below_alloc | apply pw_below_drewN | apply below_drew1) | exact HB.out)⟩
    · rw [if_neg c4] at H
      have c4b0 : (a1 == 13) = false := beq_eq_false_iff_ne.mpr c4
      have c4b1 : (a1 != 13) = true := bne_iff_ne.mpr c4
      replace H := Option.bind_eq_some_iff.mp H
      obtain ⟨t126, A80, H⟩ := H
      replace H : (some (1, t126)) = some (r1, r2) := H
      have A8 := Aside0.mk A80
      clear A80
      simp only [Option.some.injEq, Prod.mk.injEq] at H
      obtain ⟨rfl, rfl⟩ := H
      go_enter Tryz.func62, Tryz.ntmps62
      go_wp2_with (first | ((with_reducible refine gate_dst (N := 8) rfl ?_); refine Kd.R_lit (Kd.int .u8) _ 5 ?hg (N := 8) ?hd (xs := ([a1] : List Int)) (inner := [.int .u8 a1]) (ok := fun _ => True) (okp := fun _ => True) ?hr ?hp (fun _ hk => hk) trivial (Below.refl _ _) (Nat.le_refl _) (by simp) ?_; (case hd => rfl); (case hg => rfl); (case hr => first | (go_simp; done) | (go_simp; rfl)); (case hp => exact (Reps.one (show Kd.M (Kd.int .u8) _ _ _ a1 [.int .u8 a1] from rfl) (Reps.none _ _))); intro v124 w9 ho10 hb hg_ hnew_; clear hg_ hnew_; (first | rw [← Ny123.out] at ho10 | (simp only [Int.reduceToNat] at ho10; rw [← Ny123.out] at ho10)); have n0_ := Aside0.mk (Kd.R_lower ho10 (below_size (by repeat (first | (with_reducible first | exact HB.out | apply below_alloc | apply pw_below_drewN | apply below_drew1) | exact HB.out)))); have n1_ := Aside0.mk (below_step (by repeat (first | (with_reducible first | exact HB.out | apply below_alloc | apply pw_below_drewN | apply below_drew1) | exact HB.out)) hb); clear HB; have HO125 := n0_; have HB := n1_; clear n0_ n1_; clear hb ho10; have hcv11 := own_string (P := Tryz.prog) Tryz.underlying25 Tryz.underlying5 Tryz.underlying9 (Kd.own_of_R HO125.out)) | ((with_reducible refine gate_callee (f := 76) rfl ?_); refine goesL_ (some 16) rfl rfl Tryz.func76 (by kernel_rfl) rfl #[.string (strOfNums y123)] rfl (by (try simp only [List.map_toArray, List.map_cons, List.map_nil]); first | done | rfl | (simp only [List.length_drop, List.length_take]; rfl)) ?_; (with_reducible refine (octet_Token.calls (strOfNums y123) t126 _ ?side1 A8.out).mono ?_); (case side1 => first | exact hG | exact TabOk.drewN hG _ | exact TabOk.drewN (TabOk.drewN hG _) _ | exact TabOk.below hG (by repeat (first | (with_reducible first | exact HB.out | apply below_alloc | apply pw_below_drewN | apply below_drew1) | exact HB.out))); rintro e w12 ⟨rfl, hb⟩; refine ⟨_, rfl, ?_⟩; have n0_ := Aside0.mk (Kd.R_below (by (with_reducible repeat (first | apply Kd.R_alloc | apply Kd.R_drewN | apply Kd.R_drew)); exact HO125.out) hb); have n1_ := Aside0.mk (below_step (by repeat (first | (with_reducible first | exact HB.out | apply below_alloc | apply pw_below_drewN | apply below_drew1) | exact HB.out)) hb); clear HO125; clear HB; have HO125 := n0_; have HB := n1_; clear n0_ n1_; (try clear hb); (try clear hb2); (try clear hk); (try clear hi)))
      go_ret2
      exact ⟨by first | rfl | (simp [errW_none, errW_some] <;> rfl) | (simp [*, errW_none, errW_some] <;> rfl), by repeat (first | (with_reducible first | exact HB.out | apply below_alloc | apply pw_below_drewN | apply below_drew1) | exact HB.out)⟩
  · rw [if_neg c3] at H
    have c3b0 : (a0 == 0) = false := beq_eq_false_iff_ne.mpr c3
    have c3b1 : (a0 != 0) = true := bne_iff_ne.mpr c3
    by_cases c13 : a0 = 1
    · rw [if_pos c13] at H
      have c13b0 : (a0 == 1) = true := beq_iff_eq.mpr c13
      have c13b1 : (a0 != 1) = false := bne_eq_false_iff_eq.mpr c13
      clear c13
      by_cases c14 : a1 = 58
      · rw [if_pos c14] at H
        have c14b0 : (a1 == 58) = true := beq_iff_eq.mpr c14
        have c14b1 : (a1 != 58) = false := bne_eq_false_iff_eq.mpr c14
        clear c14
        simp only [Option.some.injEq, Prod.mk.injEq] at H
        obtain ⟨rfl, rfl⟩ := H
        go_enter Tryz.func62, Tryz.ntmps62
        go_wp2_with (first | ((with_reducible refine gate_dst (N := 8) rfl ?_); refine Kd.R_lit (Kd.int .u8) _ 5 ?hg (N := 8) ?hd (xs := ([a1] : List Int)) (inner := [.int .u8 a1]) (ok := fun _ => True) (okp := fun _ => True) ?hr ?hp (fun _ hk => hk) trivial (Below.refl _ _) (Nat.le_refl _) (by simp) ?_; (case hd => rfl); (case hg => rfl); (case hr => first | (go_simp; done) | (go_simp; rfl)); (case hp => exact (Reps.one (show Kd.M (Kd.int .u8) _ _ _ a1 [.int .u8 a1] from rfl) (Reps.none _ _))); intro v124 w15 ho16 hb hg_ hnew_; clear hg_ hnew_; (first | rw [← Ny123.out] at ho16 | (simp only [Int.reduceToNat] at ho16; rw [← Ny123.out] at ho16)); have n0_ := Aside0.mk (Kd.R_lower ho16 (below_size (by repeat (first | (with_reducible first | exact HB.out | apply below_alloc | apply pw_below_drewN | apply below_drew1) | exact HB.out)))); have n1_ := Aside0.mk (below_step (by repeat (first | (with_reducible first | exact HB.out | apply below_alloc | apply pw_below_drewN | apply below_drew1) | exact HB.out)) hb); clear HB; have HO125 := n0_; have HB := n1_; clear n0_ n1_; clear hb ho16; have hcv17 := own_string (P := Tryz.prog) Tryz.underlying25 Tryz.underlying5 Tryz.underlying9 (Kd.own_of_R HO125.out)))
        go_ret2
        exact ⟨by first | rfl | (simp [errW_none, errW_some] <;> rfl) | (simp [*, errW_none, errW_some] <;> rfl), by repeat (first | (with_reducible first | exact HB.out | apply below_alloc | apply pw_below_drewN | apply below_drew1) | exact HB.out)⟩
      · rw [if_neg c14] at H
        have c14b0 : (a1 == 58) = false := beq_eq_false_iff_ne.mpr c14
        have c14b1 : (a1 != 58) = true := bne_iff_ne.mpr c14
        replace H := Option.bind_eq_some_iff.mp H
        obtain ⟨t127, A180, H⟩ := H
        replace H : (some (1, t127)) = some (r1, r2) := H
        have A18 := Aside0.mk A180
        clear A180
        simp only [Option.some.injEq, Prod.mk.injEq] at H
        obtain ⟨rfl, rfl⟩ := H
        go_enter Tryz.func62, Tryz.ntmps62
        go_wp2_with (first | ((with_reducible refine gate_dst (N := 8) rfl ?_); refine Kd.R_lit (Kd.int .u8) _ 5 ?hg (N := 8) ?hd (xs := ([a1] : List Int)) (inner := [.int .u8 a1]) (ok := fun _ => True) (okp := fun _ => True) ?hr ?hp (fun _ hk => hk) trivial (Below.refl _ _) (Nat.le_refl _) (by simp) ?_; (case hd => rfl); (case hg => rfl); (case hr => first | (go_simp; done) | (go_simp; rfl)); (case hp => exact (Reps.one (show Kd.M (Kd.int .u8) _ _ _ a1 [.int .u8 a1] from rfl) (Reps.none _ _))); intro v124 w19 ho20 hb hg_ hnew_; clear hg_ hnew_; (first | rw [← Ny123.out] at ho20 | (simp only [Int.reduceToNat] at ho20; rw [← Ny123.out] at ho20)); have n0_ := Aside0.mk (Kd.R_lower ho20 (below_size (by repeat (first | (with_reducible first | exact HB.out | apply below_alloc | apply pw_below_drewN | apply below_drew1) | exact HB.out)))); have n1_ := Aside0.mk (below_step (by repeat (first | (with_reducible first | exact HB.out | apply below_alloc | apply pw_below_drewN | apply below_drew1) | exact HB.out)) hb); clear HB; have HO125 := n0_; have HB := n1_; clear n0_ n1_; clear hb ho20; have hcv21 := own_string (P := Tryz.prog) Tryz.underlying25 Tryz.underlying5 Tryz.underlying9 (Kd.own_of_R HO125.out)) | ((with_reducible refine gate_callee (f := 76) rfl ?_); refine goesL_ (some 22) rfl rfl Tryz.func76 (by kernel_rfl) rfl #[.string (strOfNums y123)] rfl (by (try simp only [List.map_toArray, List.map_cons, List.map_nil]); first | done | rfl | (simp only [List.length_drop, List.length_take]; rfl)) ?_; (with_reducible refine (octet_Token.calls (strOfNums y123) t127 _ ?side1 A18.out).mono ?_); (case side1 => first | exact hG | exact TabOk.drewN hG _ | exact TabOk.drewN (TabOk.drewN hG _) _ | exact TabOk.below hG (by repeat (first | (with_reducible first | exact HB.out | apply below_alloc | apply pw_below_drewN | apply below_drew1) | exact HB.out))); rintro e w22 ⟨rfl, hb⟩; refine ⟨_, rfl, ?_⟩; have n0_ := Aside0.mk (Kd.R_below (by (with_reducible repeat (first | apply Kd.R_alloc | apply Kd.R_drewN | apply Kd.R_drew)); exact HO125.out) hb); have n1_ := Aside0.mk (below_step (by repeat (first | (with_reducible first | exact HB.out | apply below_alloc | apply pw_below_drewN | apply below_drew1) | exact HB.out)) hb); clear HO125; clear HB; have HO125 := n0_; have HB := n1_; clear n0_ n1_; (try clear hb); (try clear hb2); (try clear hk); (try clear hi)))
        go_ret2
        exact ⟨by first | rfl | (simp [errW_none, errW_some] <;> rfl) | (simp [*, errW_none, errW_some] <;> rfl), by repeat (first | (with_reducible first | exact HB.out | apply below_alloc | apply pw_below_drewN | apply below_drew1) | exact HB.out)⟩
    · rw [if_neg c13] at H
      have c13b0 : (a0 == 1) = false := beq_eq_false_iff_ne.mpr c13
      have c13b1 : (a0 != 1) = true := bne_iff_ne.mpr c13
      by_cases c23 : a0 = 2
      · rw [if_pos c23] at H
        have c23b0 : (a0 == 2) = true := beq_iff_eq.mpr c23
        have c23b1 : (a0 != 2) = false := bne_eq_false_iff_eq.mpr c23
        clear c23
        by_cases c24 : a1 = 13
        · rw [if_pos c24] at H
          have c24b0 : (a1 == 13) = true := beq_iff_eq.mpr c24
          have c24b1 : (a1 != 13) = false := bne_eq_false_iff_eq.mpr c24
          clear c24
          simp only [Option.some.injEq, Prod.mk.injEq] at H
          obtain ⟨rfl, rfl⟩ := H
          go_enter Tryz.func62, Tryz.ntmps62
          go_wp2_with (first | ((with_reducible refine gate_dst (N := 8) rfl ?_); refine Kd.R_lit (Kd.int .u8) _ 5 ?hg (N := 8) ?hd (xs := ([a1] : List Int)) (inner := [.int .u8 a1]) (ok := fun _ => True) (okp := fun _ => True) ?hr ?hp (fun _ hk => hk) trivial (Below.refl _ _) (Nat.le_refl _) (by simp) ?_; (case hd => rfl); (case hg => rfl); (case hr => first | (go_simp; done) | (go_simp; rfl)); (case hp => exact (Reps.one (show Kd.M (Kd.int .u8) _ _ _ a1 [.int .u8 a1] from rfl) (Reps.none _ _))); intro v124 w25 ho26 hb hg_ hnew_; clear hg_ hnew_; (first | rw [← Ny123.out] at ho26 | (simp only [Int.reduceToNat] at ho26; rw [← Ny123.out] at ho26)); have n0_ := Aside0.mk (Kd.R_lower ho26 (below_size (by repeat (first | (with_reducible first | exact HB.out | apply below_alloc | apply pw_below_drewN | apply below_drew1) | exact HB.out)))); have n1_ := Aside0.mk (below_step (by repeat (first | (with_reducible first | exact HB.out | apply below_alloc | apply pw_below_drewN | apply below_drew1) | exact HB.out)) hb); clear HB; have HO125 := n0_; have HB := n1_; clear n0_ n1_; clear hb ho26; have hcv27 := own_string (P := Tryz.prog) Tryz.underlying25 Tryz.underlying5 Tryz.underlying9 (Kd.own_of_R HO125.out)))
          go_ret2
          exact ⟨by first | rfl | (simp [errW_none, errW_some] <;> rfl) | (simp [*, errW_none, errW_some] <;> rfl), by repeat (first | (with_reducible first | exact HB.out | apply below_alloc | apply pw_below_drewN | apply below_drew1) | exact HB.out)⟩
        · rw [if_neg c24] at H
          have c24b0 : (a1 == 13) = false := beq_eq_false_iff_ne.mpr c24
          have c24b1 : (a1 != 13) = true := bne_iff_ne.mpr c24
          replace H := Option.bind_eq_some_iff.mp H
          obtain ⟨t128, A280, H⟩ := H
          replace H : (some (2, t128)) = some (r1, r2) := H
          have A28 := Aside0.mk A280
          clear A280
          simp only [Option.some.injEq, Prod.mk.injEq] at H
          obtain ⟨rfl, rfl⟩ := H
          go_enter Tryz.func62, Tryz.ntmps62
          go_wp2_with (first | ((with_reducible refine gate_dst (N := 8) rfl ?_); refine Kd.R_lit (Kd.int .u8) _ 5 ?hg (N := 8) ?hd (xs := ([a1] : List Int)) (inner := [.int .u8 a1]) (ok := fun _ => True) (okp := fun _ => True) ?hr ?hp (fun _ hk => hk) trivial (Below.refl _ _) (Nat.le_refl _) (by simp) ?_; (case hd => rfl); (case hg => rfl); (case hr => first | (go_simp; done) | (go_simp; rfl)); (case hp => exact (Reps.one (show Kd.M (Kd.int .u8) _ _ _ a1 [.int .u8 a1] from rfl) (Reps.none _ _))); intro v124 w29 ho30 hb hg_ hnew_; clear hg_ hnew_; (first | rw [← Ny123.out] at ho30 | (simp only [Int.reduceToNat] at ho30; rw [← Ny123.out] at ho30)); have n0_ := Aside0.mk (Kd.R_lower ho30 (below_size (by repeat (first | (with_reducible first | exact HB.out | apply below_alloc | apply pw_below_drewN | apply below_drew1) | exact HB.out)))); have n1_ := Aside0.mk (below_step (by repeat (first | (with_reducible first | exact HB.out | apply below_alloc | apply pw_below_drewN | apply below_drew1) | exact HB.out)) hb); clear HB; have HO125 := n0_; have HB := n1_; clear n0_ n1_; clear hb ho30; have hcv31 := own_string (P := Tryz.prog) Tryz.underlying25 Tryz.underlying5 Tryz.underlying9 (Kd.own_of_R HO125.out)) | ((with_reducible refine gate_callee (f := 60) rfl ?_); refine goesL_ (some 28) rfl rfl Tryz.func60 (by kernel_rfl) rfl #[.string (strOfNums y123)] rfl (by (try simp only [List.map_toArray, List.map_cons, List.map_nil]); first | done | rfl | (simp only [List.length_drop, List.length_take]; rfl)) ?_; (with_reducible refine (octet_Text.calls (strOfNums y123) t128 _ ?side1 A28.out).mono ?_); (case side1 => first | exact hG | exact TabOk.drewN hG _ | exact TabOk.drewN (TabOk.drewN hG _) _ | exact TabOk.below hG (by repeat (first | (with_reducible first | exact HB.out | apply below_alloc | apply pw_below_drewN | apply below_drew1) | exact HB.out))); rintro e w32 ⟨rfl, hb⟩; refine ⟨_, rfl, ?_⟩; have n0_ := Aside0.mk (Kd.R_below (by (with_reducible repeat (first | apply Kd.R_alloc | apply Kd.R_drewN | apply Kd.R_drew)); exact HO125.out) hb); have n1_ := Aside0.mk (below_step (by repeat (first | (with_reducible first | exact HB.out | apply below_alloc | apply pw_below_drewN | apply below_drew1) | exact HB.out)) hb); clear HO125; clear HB; have HO125 := n0_; have HB := n1_; clear n0_ n1_; (try clear hb); (try clear hb2); (try clear hk); (try clear hi)))
          go_ret2
          exact ⟨by first | rfl | (simp [errW_none, errW_some] <;> rfl) | (simp [*, errW_none, errW_some] <;> rfl), by repeat (first | (with_reducible first | exact HB.out | apply below_alloc | apply pw_below_drewN | apply below_drew1) | exact HB.out)⟩
      · rw [if_neg c23] at H
        have c23b0 : (a0 == 2) = false := beq_eq_false_iff_ne.mpr c23
        have c23b1 : (a0 != 2) = true := bne_iff_ne.mpr c23
        by_cases c33 : a0 = 3
        · rw [if_pos c33] at H
          have c33b0 : (a0 == 3) = true := beq_iff_eq.mpr c33
          have c33b1 : (a0 != 3) = false := bne_eq_false_iff_eq.mpr c33
          clear c33
          simp only [Option.some.injEq, Prod.mk.injEq] at H
          obtain ⟨rfl, rfl⟩ := H
          go_enter Tryz.func62, Tryz.ntmps62
          go_wp2_with (first | ((with_reducible refine gate_dst (N := 8) rfl ?_); refine Kd.R_lit (Kd.int .u8) _ 5 ?hg (N := 8) ?hd (xs := ([a1] : List Int)) (inner := [.int .u8 a1]) (ok := fun _ => True) (okp := fun _ => True) ?hr ?hp (fun _ hk => hk) trivial (Below.refl _ _) (Nat.le_refl _) (by simp) ?_; (case hd => rfl); (case hg => rfl); (case hr => first | (go_simp; done) | (go_simp; rfl)); (case hp => exact (Reps.one (show Kd.M (Kd.int .u8) _ _ _ a1 [.int .u8 a1] from rfl) (Reps.none _ _))); intro v124 w34 ho35 hb hg_ hnew_; clear hg_ hnew_; (first | rw [← Ny123.out] at ho35 | (simp only [Int.reduceToNat] at ho35; rw [← Ny123.out] at ho35)); have n0_ := Aside0.mk (Kd.R_lower ho35 (below_size (by repeat (first | (with_reducible first | exact HB.out | apply below_alloc | apply pw_below_drewN | apply below_drew1) | exact HB.out)))); have n1_ := Aside0.mk (below_step (by repeat (first | (with_reducible first | exact HB.out | apply below_alloc | apply pw_below_drewN | apply below_drew1) | exact HB.out)) hb); clear HB; have HO125 := n0_; have HB := n1_; clear n0_ n1_; clear hb ho35; have hcv36 := own_string (P := Tryz.prog) Tryz.underlying25 Tryz.underlying5 Tryz.underlying9 (Kd.own_of_R HO125.out)))
          go_ret2
          exact ⟨by first | rfl | (simp [errW_none, errW_some] <;> rfl) | (simp [*, errW_none, errW_some] <;> rfl), by repeat (first | (with_reducible first | exact HB.out | apply below_alloc | apply pw_below_drewN | apply below_drew1) | exact HB.out)⟩
        · rw [if_neg c33] at H
          have c33b0 : (a0 == 3) = false := beq_eq_false_iff_ne.mpr c33
          have c33b1 : (a0 != 3) = true := bne_iff_ne.mpr c33
          by_cases c37 : a0 = 4
          · rw [if_pos c37] at H
            have c37b0 : (a0 == 4) = true := beq_iff_eq.mpr c37
            have c37b1 : (a0 != 4) = false := bne_eq_false_iff_eq.mpr c37
            clear c37
            simp only [Option.some.injEq, Prod.mk.injEq] at H
            obtain ⟨rfl, rfl⟩ := H
            go_enter Tryz.func62, Tryz.ntmps62
            go_wp2_with (first | ((with_reducible refine gate_dst (N := 8) rfl ?_); refine Kd.R_lit (Kd.int .u8) _ 5 ?hg (N := 8) ?hd (xs := ([a1] : List Int)) (inner := [.int .u8 a1]) (ok := fun _ => True) (okp := fun _ => True) ?hr ?hp (fun _ hk => hk) trivial (Below.refl _ _) (Nat.le_refl _) (by simp) ?_; (case hd => rfl); (case hg => rfl); (case hr => first | (go_simp; done) | (go_simp; rfl)); (case hp => exact (Reps.one (show Kd.M (Kd.int .u8) _ _ _ a1 [.int .u8 a1] from rfl) (Reps.none _ _))); intro v124 w38 ho39 hb hg_ hnew_; clear hg_ hnew_; (first | rw [← Ny123.out] at ho39 | (simp only [Int.reduceToNat] at ho39; rw [← Ny123.out] at ho39)); have n0_ := Aside0.mk (Kd.R_lower ho39 (below_size (by repeat (first | (with_reducible first | exact HB.out | apply below_alloc | apply pw_below_drewN | apply below_drew1) | exact HB.out)))); have n1_ := Aside0.mk (below_step (by repeat (first | (with_reducible first | exact HB.out | apply below_alloc | apply pw_below_drewN | apply below_drew1) | exact HB.out)) hb); clear HB; have HO125 := n0_; have HB := n1_; clear n0_ n1_; clear hb ho39; have hcv40 := own_string (P := Tryz.prog) Tryz.underlying25 Tryz.underlying5 Tryz.underlying9 (Kd.own_of_R HO125.out)))
            go_ret2
            exact ⟨by first | rfl | (simp [errW_none, errW_some] <;> rfl) | (simp [*, errW_none, errW_some] <;> rfl), by repeat (first | (with_reducible first | exact HB.out | apply below_alloc | apply pw_below_drewN | apply below_drew1) | exact HB.out)⟩
          · rw [if_neg c37] at H
            have c37b0 : (a0 == 4) = false := beq_eq_false_iff_ne.mpr c37
            have c37b1 : (a0 != 4) = true := bne_iff_ne.mpr c37
            simp only [Option.some.injEq, Prod.mk.injEq] at H
            obtain ⟨rfl, rfl⟩ := H
            go_enter Tryz.func62, Tryz.ntmps62
            go_wp2_with (first | ((with_reducible refine gate_dst (N := 8) rfl ?_); refine Kd.R_lit (Kd.int .u8) _ 5 ?hg (N := 8) ?hd (xs := ([a1] : List Int)) (inner := [.int .u8 a1]) (ok := fun _ => True) (okp := fun _ => True) ?hr ?hp (fun _ hk => hk) trivial (Below.refl _ _) (Nat.le_refl _) (by simp) ?_; (case hd => rfl); (case hg => rfl); (case hr => first | (go_simp; done) | (go_simp; rfl)); (case hp => exact (Reps.one (show Kd.M (Kd.int .u8) _ _ _ a1 [.int .u8 a1] from rfl) (Reps.none _ _))); intro v124 w41 ho42 hb hg_ hnew_; clear hg_ hnew_; (first | rw [← Ny123.out] at ho42 | (simp only [Int.reduceToNat] at ho42; rw [← Ny123.out] at ho42)); have n0_ := Aside0.mk (Kd.R_lower ho42 (below_size (by repeat (first | (with_reducible first | exact HB.out | apply below_alloc | apply pw_below_drewN | apply below_drew1) | exact HB.out)))); have n1_ := Aside0.mk (below_step (by repeat (first | (with_reducible first | exact HB.out | apply below_alloc | apply pw_below_drewN | apply below_drew1) | exact HB.out)) hb); clear HB; have HO125 := n0_; have HB := n1_; clear n0_ n1_; clear hb ho42; have hcv43 := own_string (P := Tryz.prog) Tryz.underlying25 Tryz.underlying5 Tryz.underlying9 (Kd.own_of_R HO125.out)))
            go_ret2
            exact ⟨by first | rfl | (simp [errW_none, errW_some] <;> rfl) | (simp [*, errW_none, errW_some] <;> rfl), by repeat (first | (with_reducible first | exact HB.out | apply below_alloc | apply pw_below_drewN | apply below_drew1) | exact HB.out)⟩
end Go.Proofs.YtmmbpbgcobmifaaGreatDoor.Pr
end
section
namespace Go.Proofs.YtmmbpbgcobmifaaGreatDoor.Pr
end Go.Proofs.YtmmbpbgcobmifaaGreatDoor.Pr
namespace Go.Proofs.YtmmbpbgcobmifaaGreatDoorH
open Go.RowKit Go.Shelf Go.Proofs.YtmmbpbgcobmifaaGreatDoorW.PrintWords Go.Proofs.YtmmbpbgcobmifaaGreatDoorW.PrintLast Go.Proofs.YtmmbpbgcobmifaaGreatDoorW.PrintMore Go.Proofs.YtmmbpbgcobmifaaGreatDoor.Pr
attribute [local go_sem] Oper.semAt_some
def nxt (st c : Int) : Int × Bool := (block_next.f st c).getD (5, false)
theorem one_size (c : Int) : (strOfNums ([c] : List Int)).size = 1 := rfl
theorem nxt_eq (st c : Int) : block_next.f st c = some (nxt st c) := by
  have h1 : octet_Token.f (strOfNums ([c] : List Int)) = some (tokB (strOfNums ([c] : List Int))) := by
    unfold octet_Token.f
    rw [if_pos (by rw [one_size]; omega)]
  have h2 : octet_Text.f (strOfNums ([c] : List Int)) = some (allB textI (strOfNums ([c] : List Int))) := by
    unfold octet_Text.f
    rw [if_pos (by rw [one_size]; omega)]
  unfold nxt block_next.f
  simp only [Option.bind_some, h1, h2]
  repeat' split
  all_goals rfl
theorem bt_get (s : ByteArray) (i : Nat) (h : i < s.size) : bt s (i : Int) = ((s[i]'h).toNat : Int) := by
  rw [bt_nat s i h, List.getD_eq_getElem?_getD, List.getElem?_eq_getElem (by rw [← size_eq_length]; exact h)]
  rfl
def scanP : Nat → ByteArray → Nat → Int → Nat × Int
  | 0, _, i, _ => (i, 4)
  | k + 1, s, i, st => if i < s.size then (if (nxt st (bt s i)).2 = true then (if (nxt st (bt s i)).1 = 5 then (i + 1, 0) else scanP k s (i + 1) (nxt st (bt s i)).1) else (i, 2)) else (i, 4)
theorem scanP_end (k : Nat) (s : ByteArray) (st : Int) : scanP k s s.size st = (s.size, 4) := by
  cases k with
  | zero => rfl
  | succ k => rw [scanP, if_neg (Nat.lt_irrefl _)]
theorem scanP_bad (k : Nat) (s : ByteArray) (i : Nat) (st nx : Int) (hi : i < s.size) (h : nxt st (bt s i) = (nx, false)) : scanP (k + 1) s i st = (i, 2) := by
  rw [scanP, if_pos hi, h]; rfl
theorem scanP_done (k : Nat) (s : ByteArray) (i : Nat) (st : Int) (hi : i < s.size) (h : nxt st (bt s i) = (5, true)) : scanP (k + 1) s i st = (i + 1, 0) := by
  rw [scanP, if_pos hi, h]; rfl
theorem scanP_on (k : Nat) (s : ByteArray) (i : Nat) (st nx : Int) (hi : i < s.size) (h : nxt st (bt s i) = (nx, true)) (h5 : nx ≠ 5) : scanP (k + 1) s i st = scanP k s (i + 1) nx := by
  rw [scanP, if_pos hi, h]; simp only [if_pos]; rw [if_neg h5]
theorem results_cell3 {fn : Func} {p u x : Tmp} {ty : TypeId} (h : fn.results = #[.cell p ty, .tmp u, .tmp x]) (tmps : Array Value) (P : Program) (w : World) (a : Addr) (v : Value)
    (hp : tmps.getD p undef = .pointer (some a)) (hA : (isAgg ty).run P w = .ok false w) (hc : w.cell? a = some v) : (results fn tmps).run P w = .ok (.tuple #[v, tmps.getD u undef, tmps.getD x undef]) w := by
  rw [Array.getD_eq_getD_getElem?] at hp
  simp only [results, h]
  simp [Sem.run_bind, Result.andThen, hp, loadVar, hA, asAddr, go_sem, hc]
def fldOf (s : ByteArray) : Fld := ⟨parseF s, parseV s⟩
def fieldsOf : List (Nat × ByteArray) → List Fld
  | [] => []
  | x :: l => if x.2.size = 0 then [] else fldOf x.2 :: fieldsOf l
theorem fieldsOf_snoc : ∀ (l : List (Nat × ByteArray)) (x : Nat × ByteArray), (∀ y ∈ l, y.2.size ≠ 0) → fieldsOf (l ++ [x]) = fieldsOf l ++ (if x.2.size = 0 then [] else [fldOf x.2])
  | [], x, _ => rfl
  | y :: l, x, h => by
    rw [List.cons_append, fieldsOf, fieldsOf, if_neg (h y List.mem_cons_self), if_neg (h y List.mem_cons_self), fieldsOf_snoc l x (fun z hz => h z (List.mem_cons_of_mem _ hz))]
    rfl
theorem fieldsOf_prefix : ∀ l r : List (Nat × ByteArray), (∃ y ∈ l, y.2.size = 0) → fieldsOf (l ++ r) = fieldsOf l
  | [], _, ⟨_, h, _⟩ => absurd h List.not_mem_nil
  | x :: l, r, ⟨y, hy, h0⟩ => by
    rw [List.cons_append, fieldsOf, fieldsOf]
    by_cases hx : x.2.size = 0
    · rw [if_pos hx, if_pos hx]
    · rw [if_neg hx, if_neg hx, fieldsOf_prefix l r]
      rcases List.mem_cons.1 hy with rfl | hy
      · exact absurd h0 hx
      · exact ⟨y, hy, h0⟩
theorem fieldsOf_length : ∀ l : List (Nat × ByteArray), (fieldsOf l).length ≤ l.length
  | [] => Nat.le_refl _
  | x :: l => by
    have := fieldsOf_length l
    rw [fieldsOf]
    split
    · simp
    · simp only [List.length_cons]; omega
def hasNil (l : List (Nat × ByteArray)) : Prop := ∃ y ∈ l, y.2.size = 0
def noNil (l : List (Nat × ByteArray)) : Prop := ∀ y ∈ l, y.2.size ≠ 0
theorem noNil_snoc {l : List (Nat × ByteArray)} {x : Nat × ByteArray} (h : noNil l) (hx : x.2.size ≠ 0) : noNil (l ++ [x]) := fun y hy => (List.mem_append.1 hy).elim (h y) (fun hy => by rcases List.mem_singleton.1 hy with rfl; exact hx)
def encF (x : Fld) : List Value := [.string x.f0, .string x.f1]
def scanR (s : ByteArray) : List Fld × Int × Int :=
  if (scanP (s.size + 1) s 0 0).2 = 0 then (fieldsOf (linesOf ((s.extract 0 (scanP (s.size + 1) s 0 0).1).size + 1) (s.extract 0 (scanP (s.size + 1) s 0 0).1) 0), (((scanP (s.size + 1) s 0 0).1 : Nat) : Int), 0)
  else ([], (((scanP (s.size + 1) s 0 0).1 : Nat) : Int), (scanP (s.size + 1) s 0 0).2)
theorem extract0_size (s : ByteArray) (k : Nat) (h : k ≤ s.size) : (s.extract 0 k).size = k := by
  have h1 := congrArg List.length (extract_to s k)
  rw [← size_eq_length, List.length_take, ← size_eq_length] at h1
  omega
theorem scanR_bad {s : ByteArray} {i : Nat} {e : Int} (h : scanP (s.size + 1) s 0 0 = (i, e)) (he : e ≠ 0) : scanR s = ([], (i : Int), e) := by
  unfold scanR
  rw [h, if_neg he]
theorem scanR_good {s : ByteArray} {i : Nat} (h : scanP (s.size + 1) s 0 0 = (i, 0)) (hi : i ≤ s.size) : scanR s = (fieldsOf (linesOf (i + 1) (s.extract 0 i) 0), (i : Int), 0) := by
  unfold scanR
  rw [h, if_pos rfl, extract0_size s i hi]
set_option maxRecDepth 100000 in
set_option maxHeartbeats 2000000 in
theorem scan_in (n : Nat) (hn : 4 ≤ n) (s : ByteArray) (hs : s.size < 4000000000) (w : World) (hG : TabOk w) :
    CallsIn Fence.wide n Tryz.prog 51 #[.string s] w fun e w' => ∃ (v : Value) (l : List Fld) (i er : Int), e = .returned (.tuple #[v, .int .i64 i, .int .i64 er]) ∧ scanR s = (l, i, er) ∧ Kd.R k28 28 w' w.heap.size (fun _ => True) v l ∧ Below w.heap.size w w' := by
  have h1 : 1 ≤ n := by omega
  refine callsIn_of_wp_marks Tryz.func51 rfl trivial ?_ rfl
  simp only [Tryz.ntmps51, List.size_toArray, List.length_cons, List.length_nil, Nat.reduceAdd, Nat.reduceSub, Array.replicate_succ, Array.replicate_zero, List.push_toArray, List.append_toArray, List.nil_append, List.cons_append]
  gi_wp2
  refine wpIn_scope_straight ?_
  gi_wp2
  apply wpIn_label
  gi_wp2
  gi_loopw [3, 5] (fun v3 v5 wr => ∃ (i k : Nat) (st : Int), i ≤ s.size ∧ s.size - i < k ∧ v3 = .int .i64 i ∧ v5 = .int .i64 st ∧ st ≠ 5 ∧ Aside0 (scanP (s.size + 1) s 0 0 = scanP k s i st) ∧ Aside0 (Boxed wr w.heap.size 23 (.slice none 0 0)) ∧ Aside0 (Below w.heap.size w wr))
    (fun v3 _ _ => s.size - (intOf v3).toNat)
  case atStart => exact ⟨0, s.size + 1, 0, Nat.zero_le _, by omega, rfl, rfl, by decide, ⟨rfl⟩, ⟨Boxed.new _ _ _⟩, ⟨below_alloc (Below.refl _ _) _⟩⟩
  case round =>
    obtain ⟨i, k, st, hi, hk, rfl, rfl, hst, hE, hbx, hb⟩ := hrel
    by_cases hlt : i < s.size
    · obtain ⟨k, rfl⟩ : ∃ q, k = q + 1 := ⟨k - 1, by omega⟩
      obtain ⟨q, hq⟩ : ∃ q, nxt st (bt s i) = q := ⟨_, rfl⟩
      obtain ⟨nx, ok⟩ := q
      have HC := Aside0.mk (block_next.calls st (bt s i) nx ok wr (hG.below hb.out) (by rw [nxt_eq, hq]))
      rw [bt_get s i hlt] at HC
      have HQ := Aside0.mk hq
      clear hq
      gi_wp2
      refine ⟨trivial, ?_⟩
      refine (callsIn_wide.2 HC.out).mono ?_
      rintro e w1 ⟨rfl, b1⟩
      have B1 := Aside0.mk (hb.out.trans (b1.mono hb.out.size))
      have X1 := Aside0.mk (show Boxed w1 w.heap.size 23 (.slice none 0 0) from (b1.block _ hbx.out.lt).trans hbx.out)
      clear b1 HC hbx hb
      cases ok with
      | false =>
        have hcl := X1.out.cell
        have hfz := X1.out.frozen
        gi_wp2
        refine ⟨_, results_cell3 rfl _ _ _ ⟨w.heap.size, 0, none⟩ (.slice none 0 0) rfl (run_isAgg_plain Tryz.underlying23 rfl _) (X1.out.set _).cell, ?_⟩
        exact ⟨_, [], _, _, rfl, scanR_bad (hE.out.trans (scanP_bad k s i st nx hlt HQ.out)) (by decide), Kd.R_nil _ _ _ _ _, B1.out.setCell (p := ⟨w.heap.size, 0, none⟩) (Nat.le_refl _) _⟩
      | true =>
        by_cases h5 : nx = 5
        · subst h5
          have HP := Aside0.mk (hE.out.trans (scanP_done k s i st hlt HQ.out))
          clear hE HQ
          have HL := Aside0.mk (lines_calls (s.extract 0 (i + 1)) w1)
          gi_wp2
          refine ⟨trivial, ?_⟩
          refine (callsIn_wide.2 HL.out).mono ?_
          rintro e w2 ⟨rfl, rfl⟩
          clear HL
          gi_wp2
          have hs1 := extract0_size s (i + 1) (by omega)
          have HB2 := Aside0.mk (show Below w.heap.size w (w1.alloc (.cells #[.string (s.extract 0 (i + 1))] 9)) from below_alloc B1.out _)
          have hwx : w.heap.size < w1.heap.size := X1.out.lt
          obtain ⟨ls, hls⟩ : ∃ ls, linesOf (i + 1 + 1) (s.extract 0 (i + 1)) 0 = ls := ⟨_, rfl⟩
          have HLL := Aside0.mk (show ls.length ≤ i + 2 by rw [← hls]; exact linesOf_length _ _ _)
          have HLZ := Aside0.mk (show ∀ y ∈ ls, y.2.size ≤ i + 1 by rw [← hls]; intro y hy; have := linesOf_size _ _ _ y hy; rwa [hs1] at this)
          have HSR := Aside0.mk (show scanR s = (fieldsOf ls, ((i + 1 : Nat) : Int), 0) by rw [scanR_good HP.out (by omega), hls])
          have HSQ := Aside0.mk (lines_own (n - 1) (by omega) w1.heap.size (s.extract 0 (i + 1)) (by rw [hs1]; omega) w hG _ (Lies.below HB2.out) (Boxed.new w1 9 (.string (s.extract 0 (i + 1)))))
          rw [hs1, hls] at HSQ
          clear hls
          refine wpIn_range_own (F := Fence.wide) rfl rfl h1 (gf := 77) (lb := #[.pointer (some ⟨w1.heap.size, 0, none⟩)]) rfl trivial (enters_of Tryz.func77 (by kernel_rfl) rfl) HSQ.out (Below.refl _ _) (fun r h => h.elim)
            (by rintro r (h | rfl) <;> rw [World.size_alloc] <;> omega) (fun _ => rfl) none (fun q e => by cases e)
            (fun pre g W => ((∀ q, g = some q → w1.heap.size + 3 ≤ q) ∧ ∃ v, v.ownBlock = g ∧ Boxed W w.heap.size 23 v ∧ W.ownsRow w.heap.size 28 2 v (fieldsOf pre).length ((fieldsOf pre).flatMap encF)) ∧ (Below w.heap.size w W ∧ noNil pre))
            (fun c pre g W => ((∀ q, g = some q → w1.heap.size + 3 ≤ q) ∧ ∃ v, v.ownBlock = g ∧ Boxed W w.heap.size 23 v ∧ W.ownsRow w.heap.size 28 2 v (fieldsOf pre).length ((fieldsOf pre).flatMap encF)) ∧ (Below w.heap.size w W ∧ (c = .exit 2 ∧ hasNil pre)))
            (Abd.and (Abd.rowed (fun pre => (fieldsOf pre).length) (fun pre => (fieldsOf pre).flatMap encF) _ (by rw [World.size_alloc]; omega) (by rw [World.size_alloc]; omega) (fun h => h) (fun r h => h.elim)) (Abd.and (Abd.low (by rw [World.size_alloc]; omega) (Nat.le_refl _) (fun r h => h.elim)) (Abd.pure (β := List (Nat × ByteArray)) (fun pre _ => noNil pre))))
            (fun c => Abd.and (Abd.rowed (fun pre => (fieldsOf pre).length) (fun pre => (fieldsOf pre).flatMap encF) _ (by rw [World.size_alloc]; omega) (by rw [World.size_alloc]; omega) (fun h => h) (fun r h => h.elim)) (Abd.and (Abd.low (by rw [World.size_alloc]; omega) (Nat.le_refl _) (fun r h => h.elim)) (Abd.pure (β := List (Nat × ByteArray)) (fun pre _ => c = .exit 2 ∧ hasNil pre))))
            ⟨⟨(fun q e => by cases e), _, rfl, X1.out.alloc _, World.ownsRow_nil _ _ _ _⟩, HB2.out, fun y hy => absurd hy List.not_mem_nil⟩
            (fun pre g W q h e => .inr (by have := h.1.1 q e; rw [World.size_alloc]; omega)) (fun c pre g W q h e => .inr (by have := h.1.1 q e; rw [World.size_alloc]; omega))
            (fun x a' _ => a' = { tmps := #[Value.string s, undef, Value.pointer (some { block := w.heap.size, off := 0 }),
              Value.int IntKind.i64 (↑i + 1), u4, Value.int IntKind.i64 5, Value.int IntKind.i64 5, Value.bool true, undef,
              Value.string x.2, undef, undef, Value.int IntKind.i64 ↑i, Value.string s, Value.int IntKind.i64 ↑s.size, Value.bool true,
              Value.tuple #[Value.int IntKind.i64 5, Value.bool true], Value.int IntKind.i64 st, Value.string s,
              Value.int IntKind.i64 ↑i, Value.int IntKind.u8 ↑s[i].toNat,
              Value.tuple #[Value.int IntKind.i64 5, Value.bool true], Value.int IntKind.i64 5, Value.bool true,
              Value.bool true, Value.bool false, u26, Value.int IntKind.i64 ↑i, Value.int IntKind.i64 (↑i + 1),
              Value.int IntKind.i64 5, Value.int IntKind.i64 5, Value.bool true, Value.int IntKind.i64 5, Value.bool false,
              undef, Value.string s, Value.int IntKind.i64 (↑i + 1), Value.string (s.extract 0 (i + 1)),
              Value.func (Fn.func 77) #[] #[Value.pointer (some { block := w1.heap.size, off := 0 })], Value.int IntKind.i64 ((x.1 : Nat) : Int), Value.string x.2, undef,
              undef, undef, undef, undef, undef, undef, undef, undef, undef, undef, undef, undef], defers := [] })
            (fun x a' _ _ _ _ _ h _ _ => h) ?assign ?body ?done ?stop
          case assign =>
            intro l pre x g W K hI hK
            dsimp only [encL]
            gi_wp2
            exact hK _ _ (Spares.refl _ _ _) hI rfl
          case body =>
            rintro l pre ⟨at', ln⟩ g a' W hW2 ⟨⟨hgq, v, rfl, hbw, hrow⟩, hBW, hne⟩ rfl hsp
            have hmem : ((at', ln) : Nat × ByteArray) ∈ ls := hsp.subset (List.mem_append_right _ List.mem_cons_self)
            have hlz : ln.size ≤ i + 1 := HLZ.out _ hmem
            have hpl : (fieldsOf pre).length + 1 ≤ i + 2 := by
              have h1 := hsp.length_le
              have h2 := HLL.out
              have h3 := fieldsOf_length pre
              rw [List.length_append, List.length_singleton] at h1
              omega
            have HF := Aside0.mk (fieldsOf_snoc pre (at', ln) hne)
            have HGQ := Aside0.mk hgq
            have HROW := Aside0.mk hrow
            have HBW := Aside0.mk hBW
            have HNE := Aside0.mk hne
            have HBX := Aside0.mk hbw
            rw [World.size_alloc] at hW2
            clear hgq hrow hBW hne hbw hsp hmem
            by_cases h0 : ln.size = 0
            · obtain rfl : ln = ⟨#[]⟩ := ByteArray.ext (Array.eq_empty_of_size_eq_zero h0)
              gi_wp2
              refine ⟨_, Spares.refl _ _ _, ⟨HGQ.out, v, rfl, HBX.out, ?_⟩, HBW.out, rfl, (show hasNil _ from ⟨(at', ⟨#[]⟩), List.mem_append_right _ List.mem_cons_self, rfl⟩)⟩
              rw [HF.out, if_pos h0, List.append_nil]
              exact HROW.out
            · obtain ⟨r3, hr3⟩ : ∃ r3 : Int, (if lineB ln = true then (0 : Int) else 2) = r3 := ⟨_, rfl⟩
              have HC := Aside0.mk (field_Parse.calls ln (parseF ln) (parseV ln) r3 W (hG.below HBW.out) (by rw [field_Parse_eq ln (by omega), hr3]))
              clear hr3
              have hne1 : (ln.toList == ([] : List UInt8)) = false := by
                rw [ByteArray.toList_eq, beq_eq_false_iff_ne]
                intro e
                apply h0
                rw [size_eq_length, e]; rfl
              have hne2 : (ln.toList = ([] : List UInt8)) = False := by simpa using hne1
              have hne3 : (ln = (⟨#[]⟩ : ByteArray)) = False := by
                refine eq_false ?_
                rintro rfl
                exact h0 rfl
              rw [if_neg h0] at HF
              gi_wp2
              refine ⟨trivial, (fun _ => by omega), ?_⟩
              refine (CallsIn.inRound l (callsIn_wide.2 HC.out)).mono ?_
              rintro e w2 ⟨rfl, b2⟩
              have HB2 := Aside0.mk b2
              have HX2 := Aside0.mk (show Boxed w2 w.heap.size 23 v from (b2.block _ HBX.out.lt).trans HBX.out)
              have HR2 := Aside0.mk (show w2.ownsRow w.heap.size 28 2 v (fieldsOf pre).length ((fieldsOf pre).flatMap encF) from own_move HROW.out (fun k hk => b2.block k (own_lt HROW.out k hk)))
              have hcl2 := (HX2.out.alloc (.cells #[.string (parseF ln), .string (parseV ln)] 28)).cell
              clear b2 HC HROW HBX
              gi_wp2_with (gi_at_builtin; refine halt ?_)
              refine unhalt ?_
              refine in_append w.heap.size rfl _ _ 23 28 (.agg #[(.string ⟨#[]⟩), (.string ⟨#[]⟩)]) 2 32 rfl Tryz.underlying23 info28 rfl (by decide) (by omega) v (fieldsOf pre).length ((fieldsOf pre).flatMap encF) [.string (parseF ln), .string (parseV ln)] rfl ?hx rfl ?one (HR2.out.alloc _) ?base ?lim ?_
              case hx => rw [World.size_alloc]; rfl
              case one =>
                intro u hu
                rcases List.mem_cons.1 hu with rfl | hu
                · rfl
                · rcases List.mem_singleton.1 hu with rfl
                  rfl
              case base =>
                rw [World.size_alloc]
                have := HBW.out.size
                have := HB2.out.size
                omega
              case lim => omega
              intro v1 w3 ho3 hg3 hat3
              obtain ⟨g', cap', rfl⟩ := ownsRow_succ ho3
              obtain ⟨hv1, hv2, hr2, hk2, hb2⟩ := collected (K := fun k => (w1.alloc (.cells #[.string (s.extract 0 (i + 1))] 9)).heap.size ≤ k ∨ (k < w.heap.size ∨ k = w1.heap.size)) (HX2.out.alloc _) (by decide) (HR2.out.alloc _) (by rw [World.size_alloc]; omega) (Nat.le_refl _) ho3 hg3 hat3
              have hc1 := hv1.cell
              have hf1 := hv1.frozen
              have HV2 := Aside0.mk hv2
              have HRR := Aside0.mk hr2
              have HK2 := Aside0.mk hk2
              have HB3 := Aside0.mk hb2
              clear hv1 hv2 hr2 hk2 hb2 ho3 hg3 hat3
              gi_wp2
              refine ⟨_, ((Spares.below HB2.out).trans (Spares.below (below_alloc (Below.refl _ _) _))).trans HK2.out, ⟨HK2.out.ge (n := w1.heap.size + 3) (by rw [World.size_alloc]; have := HB2.out.size; omega) HGQ.out, _, rfl, HV2.out, ?_⟩, (below_alloc (HBW.out.trans (HB2.out.mono HBW.out.size)) _).trans HB3.out, noNil_snoc HNE.out h0⟩
              rw [HF.out, List.length_append, List.flatMap_append]
              exact HRR.out
          case done =>
            rintro D ys g W hD rfl ⟨⟨hgq, v, rfl, hbw, hrow⟩, hBW, hne⟩ hK
            obtain ⟨a0, n0, c0, hv0⟩ := owns_slice hrow
            subst hv0
            rw [World.size_alloc] at hD
            obtain ⟨q1, q2, q3, q4⟩ := closed hbw (by decide) hrow (Nat.le_refl _) (by omega) hK
            have Q1 := Aside0.mk q1
            have Q2 := Aside0.mk q2
            have Q3 := Aside0.mk q3
            have Q4 := Aside0.mk (hBW.trans q4)
            have hcl := hbw.cell
            have hfz := hbw.frozen
            clear q1 q2 q3 q4 hrow hBW hbw hK hgq
            gi_wp2
            refine ⟨by simp, .inl ⟨_, _, rfl, run_takeDeferred Q1.out, ?_⟩⟩
            refine ⟨_, results_cell3 rfl _ _ _ ⟨w.heap.size, 0, none⟩ (.slice a0 n0 c0) rfl (run_isAgg_plain Tryz.underlying23 rfl _) Q2.out.cell, ?_⟩
            exact ⟨_, fieldsOf ys, _, _, rfl, HSR.out, row_of_owns k28 encF (fun _ => rfl) (fun _ x => k28_mkM _ _ _ x) Q3.out, Q4.out⟩
          case stop =>
            rintro D c pre g W hD hsp ⟨⟨hgq, v, rfl, hbw, hrow⟩, hBW, rfl, hz⟩ hK
            have HSS := Aside0.mk (show scanR s = (fieldsOf pre, ((i + 1 : Nat) : Int), 0) by
              obtain ⟨r, hr⟩ := hsp
              rw [HSR.out, ← hr, fieldsOf_prefix pre r hz])
            clear hsp hz
            obtain ⟨a0, n0, c0, hv0⟩ := owns_slice hrow
            subst hv0
            rw [World.size_alloc] at hD
            obtain ⟨q1, q2, q3, q4⟩ := closed hbw (by decide) hrow (Nat.le_refl _) (by omega) hK
            have Q1 := Aside0.mk q1
            have Q2 := Aside0.mk q2
            have Q3 := Aside0.mk q3
            have Q4 := Aside0.mk (hBW.trans q4)
            have hcl := hbw.cell
            have hfz := hbw.frozen
            clear q1 q2 q3 q4 hrow hBW hbw hK hgq
            gi_wp2
            refine ⟨by simp, .inl ⟨_, _, rfl, run_takeDeferred Q1.out, ?_⟩⟩
            refine ⟨_, results_cell3 rfl _ _ _ ⟨w.heap.size, 0, none⟩ (.slice a0 n0 c0) rfl (run_isAgg_plain Tryz.underlying23 rfl _) Q2.out.cell, ?_⟩
            exact ⟨_, fieldsOf pre, _, _, rfl, HSS.out, row_of_owns k28 encF (fun _ => rfl) (fun _ x => k28_mkM _ _ _ x) Q3.out, Q4.out⟩
        · have HP := Aside0.mk (hE.out.trans (scanP_on k s i st nx hlt HQ.out h5))
          clear hE HQ
          gi_wp2
          go_roundw
          case rel => exact ⟨i + 1, k, nx, by omega, by omega, congrArg (Value.int IntKind.i64) (by omega), rfl, h5, HP, X1, B1⟩
          case measure => simp [intOf]; omega
    · have hie : i = s.size := by omega
      subst hie
      have HP := Aside0.mk (hE.out.trans (scanP_end k s st))
      have hcl := hbx.out.cell
      have hfz := hbx.out.frozen
      clear hE
      gi_wp2
      refine ⟨_, results_cell3 rfl _ _ _ ⟨w.heap.size, 0, none⟩ (.slice none 0 0) rfl (run_isAgg_plain Tryz.underlying23 rfl _) (hbx.out.set _).cell, ?_⟩
      exact ⟨_, [], _, _, rfl, scanR_bad HP.out (by decide), Kd.R_nil _ _ _ _ _, hb.out.setCell (p := ⟨w.heap.size, 0, none⟩) (Nat.le_refl _) _⟩
def block_Scan.f (a0 : ByteArray) : Option ((List S28) × Int × Int) := if a0.size < 4000000000 then some (scanR a0) else none
theorem block_Scan.calls (a0 : ByteArray) (r1 : List S28) (r2 : Int) (r3 : Int) (w : World) (hG : TabOk w) (h : block_Scan.f a0 = some (r1, r2, r3)) :
    Calls Tryz.prog 51 #[.string a0] w fun e w' => ∃ v0_ : Value, e = .returned (.tuple #[v0_, .int .i64 r2, .int .i64 r3]) ∧ Kd.R k28 28 w' w.heap.size (fun _ => True) v0_ r1 ∧ Below w.heap.size w w' := by
  unfold block_Scan.f at h
  split at h
  · rename_i hs
    injection h with h
    refine (callsIn_wide.1 (scan_in 4 (Nat.le_refl _) a0 hs w hG)).mono ?_
    rintro e w' ⟨v, l, i, er, rfl, hr, hR, hb⟩
    rw [h] at hr
    cases hr
    exact ⟨v, rfl, hR, hb⟩
  · cases h
end Go.Proofs.YtmmbpbgcobmifaaGreatDoorH
end
section
namespace Go.Proofs.YtmmbpbgcobmifaaGreatDoor.Pr
end Go.Proofs.YtmmbpbgcobmifaaGreatDoor.Pr
namespace Go.Proofs.YtmmbpbgcobmifaaGreatDoorH
open Go Go.RowKit Go.Proofs.YtmmbpbgcobmifaaGreatDoorW.PrintWords Go.Proofs.YtmmbpbgcobmifaaGreatDoorW.PrintLast Go.Proofs.YtmmbpbgcobmifaaGreatDoorW.PrintMore Go.Proofs.YtmmbpbgcobmifaaGreatDoor.Pr Go.Proofs.YtmmbpbgcobmifaaGreatDoorM
theorem scanP_le : ∀ (k : Nat) (s : ByteArray) (i : Nat) (st : Int), i ≤ s.size → (scanP k s i st).1 ≤ s.size
  | 0, s, i, st, h => h
  | k + 1, s, i, st, h => by
    rw [scanP]
    split
    · split
      · split
        · dsimp only; omega
        · exact scanP_le k s (i + 1) _ (by omega)
      · exact h
    · exact h
theorem scanR_nat (s : ByteArray) : ∃ n : Nat, (scanR s).2.1 = (n : Int) ∧ n ≤ s.size := by
  have h := scanP_le (s.size + 1) s 0 0 (Nat.zero_le _)
  unfold scanR
  split
  · exact ⟨_, rfl, h⟩
  · exact ⟨_, rfl, h⟩
theorem beyL_le (e1 e2 : Nat) : ∀ (ls : List (List Int)) (z k : Nat), beyL e1 e2 ls z k ≤ ((max e2 (z + ls.flatten.length) : Nat) : Int)
  | [], z, k => by rw [beyL]; omega
  | ln :: ls, z, k => by
    have ih := beyL_le e1 e2 ls (z + ln.length) (k + 1)
    rw [beyL, List.flatten_cons, List.length_append]
    split
    · omega
    · split
      · omega
      · split
        · omega
        · have : z + ln.length + ls.flatten.length = z + (ln.length + ls.flatten.length) := by omega
          rw [this] at ih
          exact ih
def secQ (r : List Int) (e1 e2 : Nat) (a : Nat) (q : List Fld × Int × Int) : RM (List Fld) :=
  if 0 ≤ beyL e1 e2 (linesB (r.take q.2.1.toNat)) 0 0 then .error (a + (beyL e1 e2 (linesB (r.take q.2.1.toNat)) 0 0).toNat, 5)
  else if q.2.2 = 0 then .ok (q.1, a + q.2.1.toNat) else .error (a + q.2.1.toNat, q.2.2)
def secM (s : List Int) (e1 e2 : Nat) (a : Nat) : RM (List Fld) := secQ (s.drop a) e1 e2 a (scanR (strOfNums (s.drop a)))
def DoesF (W : World) (B b : Nat) (A : Option Addr) (n c : Nat) (e0 e1 e2 : Int) (dv : Value) (D : List Int) (m : RM (List Fld)) (e : Ending) (w' : World) : Prop :=
  match m with
  | .ok (l, a1) => ∃ A' n' c', e = .returned (.slice A' n' c') ∧ Kd.R k28 28 w' B (fun _ => True) (.slice A' n' c') l ∧ AtR W w' B b A n c e0 e1 e2 a1 dv D
  | .error (a1, er) => e = gaveUp a1 er ∧ AtR W w' B b A n c e0 e1 e2 a1 dv D
theorem AtR.below {w W W1 : World} {B b : Nat} {A : Option Addr} {n c : Nat} {e0 e1 e2 : Int} {a : Nat} {dv : Value} {D : List Int} (h : AtR w W B b A n c e0 e1 e2 a dv D) (hB : B ≤ b) (hb : Below W.heap.size W W1) : AtR w W1 B b A n c e0 e1 e2 a dv D :=
  h.only hB (h.i.below hb) (Only.of_below hb (Nat.le_of_lt h.i.lt))
set_option maxHeartbeats 8000000 in
set_option maxRecDepth 100000 in
theorem section_does (w W : World) (B b : Nat) (A : Option Addr) (c : Nat) (e0 : Int) (e1 e2 : Nat) (a : Nat) (dv : Value) (D s : List Int) (hA : AtR w W B b A s.length c e0 (e1 : Int) (e2 : Int) a dv D) (hBb : B ≤ b) (hBw : B ≤ w.heap.size) (hC : Keeps B w fun W => Kd.C (Kd.int .u8) W A s.length s ∧ TabOk W)
    (hs : ByteL s) (hl : s.length ≤ 1073741824) (hsc : s.length ≤ c) (ha : a ≤ s.length) (h1 : e1 ≤ 65536) (h2 : e2 ≤ 65536) :
    Calls Tryz.prog 39 #[.pointer (some ⟨b, 0, none⟩)] W (DoesF W B b A s.length c e0 (e1 : Int) (e2 : Int) dv D (secM s e1 e2 a)) := by
  have AT0 := Aside0.mk (show AtR W W B b A s.length c e0 (e1 : Int) (e2 : Int) a dv D from ⟨hA.i, hA.r, Fore.refl _ _, Below.refl _ _⟩)
  have HK := Aside0.mk (fun (W' : World) (v : Value) (E : List Int) (a' : Nat) (h : AtR W W' B b A s.length c e0 (e1 : Int) (e2 : Int) a' v E) => hC W' (hA.b.trans h.b))
  have hsz : B ≤ W.heap.size := Nat.le_trans hBw hA.b.size
  have hbW := AT0.out.i.lt
  have HR := Aside0.mk (show ∀ x ∈ s.drop a, 0 ≤ x ∧ x ≤ 255 from fun x hx => hs x (List.mem_of_mem_drop hx))
  clear hA hC hs
  have htu : Tryz.prog.underlying 25 = some (.slice 5) := Tryz.underlying25
  have hq : (Tryz.prog.info? 5).map (fun i => i.size) = some 1 := by kernel_rfl
  obtain ⟨ii, hii, hisz⟩ := Option.map_eq_some_iff.1 hq
  clear hq
  obtain ⟨A', hA'⟩ : ∃ A', (if c = a then A else A.map (·.add (a * 1))) = A' := ⟨_, rfl⟩
  have HCD := Aside0.mk (fun (W' : World) (h : Kd.C (Kd.int .u8) W' A s.length s) => (show Kd.C (Kd.int .u8) W' A' (s.drop a).length (s.drop a) from by
    have := Kd.C_drop (m := a) (c := c) h ha hsc
    rw [← hA']
    exact this))
  have hdl : (s.drop a).length = s.length - a := List.length_drop
  have hs1 : ∀ W : World, (Instr.slice 25 (.slice A s.length c) (some (.int .i64 (a : Int))) none none).run Tryz.prog W = .ok (.slice A' (s.drop a).length (c - a)) W := fun W => by
    have := cut_from (P := Tryz.prog) 25 5 .i64 htu hii 1 hisz A s.length c (a : Int) (by omega) (by omega) W
    rw [Int.toNat_natCast, hA'] at this
    rw [hdl]
    exact this
  clear hA'
  show Calls _ _ _ _ (DoesF W B b A s.length c e0 (e1 : Int) (e2 : Int) dv D (secQ (s.drop a) e1 e2 a (scanR (strOfNums (s.drop a)))))
  obtain ⟨r, hr⟩ : ∃ r, s.drop a = r := ⟨_, rfl⟩
  rw [hr] at HR HCD hdl hs1
  rw [hr]
  clear hr
  obtain ⟨n, hn, hnr⟩ := scanR_nat (strOfNums r)
  rw [strOfNums_size] at hnr
  have hss : (strOfNums r).size < 4000000000 := by rw [strOfNums_size]; omega
  obtain ⟨q, hq⟩ : ∃ q, scanR (strOfNums r) = q := ⟨_, rfl⟩
  have HSC := Aside0.mk (fun (W' : World) (hg : TabOk W') => block_Scan.calls (strOfNums r) q.1 q.2.1 q.2.2 W' hg (by unfold block_Scan.f; rw [if_pos hss, hq]))
  rw [hq] at hn
  rw [hq]
  clear hq hss
  obtain ⟨fl, qn, er⟩ := q
  dsimp only at hn HSC
  subst hn
  have htl : (r.take n).length = n := by rw [List.length_take]; omega
  have hs2 : ∀ W : World, (Instr.slice 25 (.slice A' r.length (c - a)) none (some (.int .i64 (n : Int))) none).run Tryz.prog W = .ok (.slice A' (r.take n).length (c - a)) W := fun W => by
    have := cut_to (P := Tryz.prog) 25 5 .i64 htu hii A' r.length (c - a) (n : Int) (by omega) (by omega) (by omega) W
    rw [Int.toNat_natCast] at this
    rw [htl]
    exact this
  have HCT := Aside0.mk (fun (W' : World) (h : Kd.C (Kd.int .u8) W' A s.length s) => Kd.C_take (m := n) (HCD.out W' h) (by omega))
  have HBY := Aside0.mk (fun (W' : World) (h : Kd.C (Kd.int .u8) W' A' (r.take n).length (r.take n)) => beyond_calls A' (c - a) (r.take n) (fun x hx => HR.out x (List.mem_of_mem_take hx)) (by rw [htl]; omega) (by rw [htl]; omega) e0 e1 e2 h1 h2 W' h)
  obtain ⟨bv, hbv⟩ : ∃ bv, beyL e1 e2 (linesB (r.take n)) 0 0 = bv := ⟨_, rfl⟩
  have hbvr : bv ≤ 1073741824 := by
    have := beyL_le e1 e2 (linesB (r.take n)) 0 0
    rw [hbv, linesB_flat] at this
    omega
  unfold secQ
  dsimp only
  rw [Int.toNat_natCast, hbv]
  rw [hbv] at HBY
  clear hbv
  have hrl : r.length ≤ 1073741824 := by omega
  have hna : n + a ≤ s.length := by omega
  have hna2 : (n : Int) + (a : Int) ≤ 1073741824 := by omega
  have HDL := Aside0.mk hdl
  obtain ⟨L, hL⟩ : ∃ L, r.take n = L := ⟨_, rfl⟩
  rw [hL] at htl hs2 HCT HBY
  have HTL := Aside0.mk htl
  clear hdl htl hL
  obtain ⟨M, hM⟩ : ∃ M : RM (List Fld), (if 0 ≤ bv then .error (a + bv.toNat, 5) else if er = 0 then .ok (fl, a + n) else .error (a + n, er)) = M := ⟨_, rfl⟩
  rw [hM]
  have HM := Aside0.mk hM
  clear hM
  have c0 := AT0.out.i.c0
  have c1 := AT0.out.i.c1
  have c2 := AT0.out.i.c2
  have c3 := AT0.out.i.c3
  have c4 := AT0.out.i.c4
  have hge : (0 : Int) ≤ (a : Int) := by omega
  have hge2 : (a : Int) ≤ (s.length : Int) := by omega
  have hge3 : (0 : Int) ≤ (n : Int) := by omega
  have hge4 : (n : Int) ≤ (r.length : Int) := by omega
  go_enter Tryz.func39, Tryz.ntmps39
  go_wp2_with fail
  go_region_held3 (fun W => W.cell? ⟨b, 0, none⟩ = some (.slice A s.length c) ∧ W.cell? ⟨b, 4, none⟩ = some (.int .i64 (a : Int))) (exact ⟨c0, c4⟩) (fail)
  have A1 := Aside0.mk (AT0.out.below hBb (below_drew (Below.refl _ _) : Below W.heap.size W W.drew))
  have hcv : (convert 25 9 (.slice A' r.length (c - a))).run Tryz.prog W.drew = .ok (.string (strOfNums r)) W.drew := Kd.C_string Tryz.underlying25 Tryz.underlying5 Tryz.underlying9 (HCD.out _ (HK.out _ _ _ _ A1.out).1)
  go_wp2_with fail
  refine (HSC.out _ (HK.out _ _ _ _ A1.out).2).mono ?_
  rintro e W2 ⟨fv, rfl, hR2, hb2⟩
  have A2 := Aside0.mk (A1.out.below hBb hb2)
  have HR2 := Aside0.mk (Kd.R_lower (base' := B) hR2 (Nat.le_trans hsz (Nat.le_refl _)))
  clear hR2 hb2 hcv
  obtain ⟨fA, fc, hfv⟩ := Kd.R_slice HR2.out
  subst hfv
  have d1 := A2.out.i.c1
  have d2 := A2.out.i.c2
  have d3 := A2.out.i.c3
  have d4 := A2.out.i.c4
  go_wp2_with fail
  have A3 := Aside0.mk (A2.out.below hBb (below_drew (Below.refl _ _) : Below W2.heap.size W2 W2.drew))
  have HBY3 := HBY.out W2.drew (HCT.out _ (HK.out _ _ _ _ A3.out).1)
  have HR3 := Aside0.mk (Kd.R_drew HR2.out)
  clear HBY HSC
  go_region_held3 (fun W => W.cell? ⟨b, 1, none⟩ = some (.int .i64 e0) ∧ W.cell? ⟨b, 2, none⟩ = some (.int .i64 (e1 : Int)) ∧ W.cell? ⟨b, 3, none⟩ = some (.int .i64 (e2 : Int))) (first | exact ⟨d1, d2, d3⟩ | exact ⟨x1, x2, x3⟩)
    (first | (go_at_call 52; refine HBY3.mono ?_; rintro e w4 ⟨rfl, hb4⟩; have A4 := Aside0.mk (A3.out.below hBb hb4); have HR4 := Aside0.mk (Kd.R_below HR3.out hb4); have x1 := A4.out.i.c1; have x2 := A4.out.i.c2; have x3 := A4.out.i.c3; clear hb4))
  have x4 := A4.out.i.c4
  have y4 := A4.out.i.fz 4
  clear d1 d2 d3 d4 x1 x2 x3 c0 c1 c2 c3 c4
  by_cases hbp : 0 ≤ bv
  · have HM2 := Aside0.mk (show (.error (a + bv.toNat, 5) : RM (List Fld)) = M by rw [← HM.out, if_pos hbp])
    obtain ⟨z, rfl⟩ := Int.eq_ofNat_of_zero_le hbp
    rw [Int.toNat_natCast] at HM2
    obtain ⟨m, hm⟩ : ∃ m, a + z = m := ⟨_, rfl⟩
    have hw4 : IntKind.i64.wrap ((a : Int) + (z : Int)) = (m : Int) := by
      unfold IntKind.wrap
      simp [IntKind.bits, IntKind.signed]
      omega
    rw [hm] at HM2
    clear hm HM
    have HMO := Aside0.mk (fun W' (h : W'.cell? ⟨b, 4, none⟩ = some (.int .i64 (m : Int))) => must_off b m 5 W' h)
    have A5 := Aside0.mk (A4.out.set4 hBb m)
    go_wp2_with fail
    refine (HMO.out _ A5.out.i.c4).mono ?_
    rintro e w7 ⟨rfl, rfl⟩
    refine ⟨rfl, ?_⟩
    show DoesF W B b A s.length c e0 (e1 : Int) (e2 : Int) dv D M _ _
    rw [← HM2.out]
    exact ⟨rfl, A5.out⟩
  · have HM2 := Aside0.mk (show (if er = 0 then .ok (fl, a + n) else .error (a + n, er) : RM (List Fld)) = M by rw [← HM.out, if_neg hbp])
    have hbp2 : decide ((0 : Int) ≤ bv) = false := decide_eq_false hbp
    obtain ⟨m, hm⟩ : ∃ m, a + n = m := ⟨_, rfl⟩
    have hw4 : IntKind.i64.wrap ((a : Int) + (n : Int)) = (m : Int) := by
      unfold IntKind.wrap
      simp [IntKind.bits, IntKind.signed]
      omega
    rw [hm] at HM2
    clear hm HM
    have A5 := Aside0.mk (A4.out.set4 hBb m)
    have HR5 := Aside0.mk (Kd.R_set HR4.out A4.out.i (by decide) 4 (.int .i64 (m : Int)))
    by_cases he : er = 0
    · subst he
      have HMO := Aside0.mk (fun W' => must_on b 0 W')
      rw [if_pos rfl] at HM2
      go_wp2_with fail
      refine (HMO.out _).mono ?_
      rintro e w7 ⟨rfl, rfl⟩
      go_wp2
      go_ret
      show DoesF W B b A s.length c e0 (e1 : Int) (e2 : Int) dv D M _ _
      rw [← HM2.out]
      exact ⟨_, _, _, rfl, HR5.out, A5.out⟩
    · have he2 : (er == 0) = false := by rw [beq_eq_false_iff_ne]; exact he
      rw [if_neg he] at HM2
      have HMO := Aside0.mk (fun W' (h : W'.cell? ⟨b, 4, none⟩ = some (.int .i64 (m : Int))) => must_off b m er W' h)
      go_wp2_with fail
      refine (HMO.out _ A5.out.i.c4).mono ?_
      rintro e w7 ⟨rfl, rfl⟩
      refine ⟨rfl, ?_⟩
      show DoesF W B b A s.length c e0 (e1 : Int) (e2 : Int) dv D M _ _
      rw [← HM2.out]
      exact ⟨rfl, A5.out⟩
end Go.Proofs.YtmmbpbgcobmifaaGreatDoorH
end
