import Derived.Test.YtakbnoelbmgmhaaDoorZEnchunkPartsP3
import Derived.Test.YtakbnoelbmgmhaaDoorZEnchunkPartsP1
import Derived.Test.YtakbnoelbmgmhaaDoorZEnchunkPartsP0
import Derived.Test.YtakbnoelbmgmhaaDoorZEnchunkPartsP2
import Derived.RangeFuncNested
import Derived.RangeFuncBound
import Derived.RangeFuncCalls
import Derived.RangeFuncLeaves
import Derived.RangeFuncKeeps
import Derived.Shelf.RegionOpen
import Derived.WalkKit
import Derived.OwnWalkIn
import Derived.TacticsInMore
import Derived.LoopNIn
import Derived.LoopIn
import Derived.ControlIn
import Derived.Scope
import Derived.WalkMore
import Derived.Laws.EntriesVeiled
import Derived.RangeFuncFrom
import Derived.RangeFuncWrites
import Derived.RangeFuncBox
import Derived.Maps.AppendAt
import Derived.HandedShaped
import Derived.Handed
import Derived.SizedLaws
import Derived.Deep.RegionHeld3
import Derived.Test.YtakbnoelbmgmhaaDoorProg
import Derived.Below
import Derived.Deep.Draws
import Derived.Deep.AppendLies
import Derived.OwnWalk
import Derived.Laws.BytesArg
import Derived.Laws.MakeOwn
import Derived.Laws.OwnMore
import Derived.Deep.OwnRows
import Derived.Tactics
import Derived.Lib.ConvBytes
import Derived.Laws.Slices
import Derived.KernelRfl
import Derived.RowKit3
import Derived.Deep.LoopGhost
import Derived.Deep.QuietTactic
import Derived.BigQuiet
import Derived.WideLaws
import Derived.Deep.DeepCutAuto
import Derived.Deep.CutBlock
import Derived.Laws.Rows
import Derived.Lib.AppendStr
import Derived.ArgAppend
import Derived.Laws.IdiomCopy
import Derived.OrdersHeld
import Derived.Laws.BitsLemmas
import Derived.RowKit
import Derived.Laws.StructEq
import Derived.ProofKit
import Derived.OpenShut
import Derived.Deep.Slices
namespace Go.Proofs.YtakbnoelbmgmhaaDoorH
end Go.Proofs.YtakbnoelbmgmhaaDoorH
namespace Go.Proofs.YtakbnoelbmgmhaaDoorW.PrintWords
end Go.Proofs.YtakbnoelbmgmhaaDoorW.PrintWords
namespace Go.Proofs.YtakbnoelbmgmhaaDoorW.PrintLast
end Go.Proofs.YtakbnoelbmgmhaaDoorW.PrintLast
namespace Go.Proofs.YtakbnoelbmgmhaaDoorW.PrintMore
end Go.Proofs.YtakbnoelbmgmhaaDoorW.PrintMore
namespace Go.Proofs.YtakbnoelbmgmhaaDoor.Pr
end Go.Proofs.YtakbnoelbmgmhaaDoor.Pr
namespace Go.Proofs.YtakbnoelbmgmhaaDoor.Pq
end Go.Proofs.YtakbnoelbmgmhaaDoor.Pq
namespace Go.Proofs.YtakbnoelbmgmhaaDoor.Pe
end Go.Proofs.YtakbnoelbmgmhaaDoor.Pe
section
namespace Go.Proofs.YtakbnoelbmgmhaaDoor.Pr
open Go.RowKit Go.Proofs.YtakbnoelbmgmhaaDoorH Go.Proofs.YtakbnoelbmgmhaaDoorW.PrintWords Go.Proofs.YtakbnoelbmgmhaaDoorW.PrintLast Go.Proofs.YtakbnoelbmgmhaaDoorW.PrintMore
attribute [local go_sem] max2_int min2_int max_two min_two max_three min_three max_four min_four   -- for this text's walks alone
set_option linter.unusedVariables false
set_option linter.unusedSimpArgs false
def catchpitref05_Put.f (a0_0 : ByteArray) (a0_1 : ByteArray) : Option (ByteArray) := if (a0_1.size : Int) = 0 then (if a0_0.size + 1 ≤ 9223372036854775807 then (some (a0_0 ++ (⟨#[58]⟩ : ByteArray))) else (none)) else (if a0_0.size + 2 ≤ 9223372036854775807 then (if (a0_0 ++ (⟨#[58, 32]⟩ : ByteArray)).size + a0_1.size ≤ 9223372036854775807 then (some ((a0_0 ++ (⟨#[58, 32]⟩ : ByteArray)) ++ a0_1)) else (none)) else (none))
set_option maxHeartbeats 8000000 in
set_option maxRecDepth 100000 in
theorem catchpitref05_Put.calls (a0_0 : ByteArray) (a0_1 : ByteArray) (r : ByteArray) (w : World) (hG : TabOk w) (h : catchpitref05_Put.f a0_0 a0_1 = some r) :
    Calls Tryd.prog 41 #[.agg #[.string a0_0, .string a0_1]] w fun e w' => e = .returned (.string r) ∧ Below w.heap.size w w' := by
  have hu68 := Tryd.underlying68
  have HB := Aside0.mk (Below.refl w.heap.size w)
  have H : (if (a0_1.size : Int) = 0 then (if a0_0.size + 1 ≤ 9223372036854775807 then (some (a0_0 ++ (⟨#[58]⟩ : ByteArray))) else (none)) else (if a0_0.size + 2 ≤ 9223372036854775807 then (if (a0_0 ++ (⟨#[58, 32]⟩ : ByteArray)).size + a0_1.size ≤ 9223372036854775807 then (some ((a0_0 ++ (⟨#[58, 32]⟩ : ByteArray)) ++ a0_1)) else (none)) else (none))) = some r := h
  clear h
  by_cases c2 : (a0_1.size : Int) = 0
  · rw [if_pos c2] at H
    have c2b0 : ((a0_1.size : Int) == 0) = true := beq_iff_eq.mpr c2
    have c2b1 : ((a0_1.size : Int) != 0) = false := bne_eq_false_iff_eq.mpr c2
    clear c2
    by_cases c3 : a0_0.size + 1 ≤ 9223372036854775807
    · rw [if_pos c3] at H
      have c3b0 := eq_true c3
      have c3b1 : decide (a0_0.size + 1 ≤ 9223372036854775807) = true := decide_eq_true c3
      try have c3b2 : (9223372036854775807 < a0_0.size + 1) = False := eq_false (Nat.not_lt.2 c3)
      obtain rfl := Option.some.inj H
      go_enter Tryd.func41, Tryd.ntmps41
      go_wp2_with (first | ((with_reducible refine gate_dst (N := 1) rfl ?_); refine box_event ?hg (N := 1) ?hd (cs := #[.string a0_0, .string a0_1]) (t := 68) ?hr ?_; (case hd => rfl); (case hg => rfl); (case hr => first | (go_simp; done) | (go_simp; rfl)); intro gb123 hg w4 hbox hb; have n0_ := Aside0.mk (below_step (by repeat (first | (with_reducible first | exact HB.out | apply below_alloc | apply pw_below_drewN | apply below_drew1) | exact HB.out)) hb); have n1_ := Aside0.mk (hbox); have n2_ := Aside0.mk ((by rw [hg]; exact (below_size (by repeat (first | (with_reducible first | exact HB.out | apply below_alloc | apply pw_below_drewN | apply below_drew1) | exact HB.out))) : w.heap.size ≤ gb123)); have n3_ := Aside0.mk ((by rw [hg]; exact (below_size (by repeat (first | (with_reducible first | exact HB.out | apply below_alloc | apply pw_below_drewN | apply below_drew1) | exact HB.out))) : w.heap.size ≤ gb123)); clear HB; have HB := n0_; have BK123 := n1_; have GW123 := n2_; have GE123 := n3_; clear n0_ n1_ n2_ n3_; clear hb hbox hg; have hcz5_0 : w4.cell? ⟨gb123, 0, none⟩ = some (.string a0_0) := (blk_cell BK123.out 0).trans rfl; have hcz5_1 : w4.cell? ⟨gb123, 1, none⟩ = some (.string a0_1) := (blk_cell BK123.out 1).trans rfl; have hfz5_0 := blk_frozen BK123.out 0; have hfz5_1 := blk_frozen BK123.out 1))
      go_ret
      exact ⟨by first | rfl | (simp [errW_none, errW_some] <;> rfl) | (simp [*, errW_none, errW_some] <;> rfl), by repeat (first | (with_reducible first | exact HB.out | apply below_alloc | apply pw_below_drewN | apply below_drew1 | refine below_set ?_ GE123.out) | exact HB.out)⟩
    · rw [if_neg c3] at H
      exact absurd H (by simp)
  · rw [if_neg c2] at H
    have c2b0 : ((a0_1.size : Int) == 0) = false := beq_eq_false_iff_ne.mpr c2
    have c2b1 : ((a0_1.size : Int) != 0) = true := bne_iff_ne.mpr c2
    by_cases c6 : a0_0.size + 2 ≤ 9223372036854775807
    · rw [if_pos c6] at H
      have c6b0 := eq_true c6
      have c6b1 : decide (a0_0.size + 2 ≤ 9223372036854775807) = true := decide_eq_true c6
      try have c6b2 : (9223372036854775807 < a0_0.size + 2) = False := eq_false (Nat.not_lt.2 c6)
      by_cases c7 : (a0_0 ++ (⟨#[58, 32]⟩ : ByteArray)).size + a0_1.size ≤ 9223372036854775807
      · rw [if_pos c7] at H
        have c7b0 := eq_true c7
        try simp only [ByteArray.size_append, ByteArray.size_extract, Nat.min_self] at c7b0
        have c7b1 : decide ((a0_0 ++ (⟨#[58, 32]⟩ : ByteArray)).size + a0_1.size ≤ 9223372036854775807) = true := decide_eq_true c7
        try simp only [ByteArray.size_append, ByteArray.size_extract, Nat.min_self] at c7b1
        try have c7b2 : (9223372036854775807 < (a0_0 ++ (⟨#[58, 32]⟩ : ByteArray)).size + a0_1.size) = False := eq_false (Nat.not_lt.2 c7)
        try simp only [ByteArray.size_append, ByteArray.size_extract, Nat.min_self] at c7b2
        obtain rfl := Option.some.inj H
        go_enter Tryd.func41, Tryd.ntmps41
        go_wp2_with (first | ((with_reducible refine gate_dst (N := 1) rfl ?_); refine box_event ?hg (N := 1) ?hd (cs := #[.string a0_0, .string a0_1]) (t := 68) ?hr ?_; (case hd => rfl); (case hg => rfl); (case hr => first | (go_simp; done) | (go_simp; rfl)); intro gb123 hg w8 hbox hb; have n0_ := Aside0.mk (below_step (by repeat (first | (with_reducible first | exact HB.out | apply below_alloc | apply pw_below_drewN | apply below_drew1) | exact HB.out)) hb); have n1_ := Aside0.mk (hbox); have n2_ := Aside0.mk ((by rw [hg]; exact (below_size (by repeat (first | (with_reducible first | exact HB.out | apply below_alloc | apply pw_below_drewN | apply below_drew1) | exact HB.out))) : w.heap.size ≤ gb123)); have n3_ := Aside0.mk ((by rw [hg]; exact (below_size (by repeat (first | (with_reducible first | exact HB.out | apply below_alloc | apply pw_below_drewN | apply below_drew1) | exact HB.out))) : w.heap.size ≤ gb123)); clear HB; have HB := n0_; have BK123 := n1_; have GW123 := n2_; have GE123 := n3_; clear n0_ n1_ n2_ n3_; clear hb hbox hg; have hcz9_0 : w8.cell? ⟨gb123, 0, none⟩ = some (.string a0_0) := (blk_cell BK123.out 0).trans rfl; have hcz9_1 : w8.cell? ⟨gb123, 1, none⟩ = some (.string a0_1) := (blk_cell BK123.out 1).trans rfl; have hfz9_0 := blk_frozen BK123.out 0; have hfz9_1 := blk_frozen BK123.out 1))
        go_ret
        exact ⟨by first | rfl | (simp [errW_none, errW_some] <;> rfl) | (simp [*, errW_none, errW_some] <;> rfl), by repeat (first | (with_reducible first | exact HB.out | apply below_alloc | apply pw_below_drewN | apply below_drew1 | refine below_set ?_ GE123.out) | exact HB.out)⟩
      · rw [if_neg c7] at H
        exact absurd H (by simp)
    · rw [if_neg c6] at H
      exact absurd H (by simp)
end Go.Proofs.YtakbnoelbmgmhaaDoor.Pr
end
section
namespace Go.Proofs.YtakbnoelbmgmhaaDoor.Pr
end Go.Proofs.YtakbnoelbmgmhaaDoor.Pr
namespace Go.Proofs.YtakbnoelbmgmhaaDoorH
open Go.RowKit Go.Proofs.YtakbnoelbmgmhaaDoorW.PrintWords Go.Proofs.YtakbnoelbmgmhaaDoorW.PrintLast Go.Proofs.YtakbnoelbmgmhaaDoorW.PrintMore Go.Proofs.YtakbnoelbmgmhaaDoor.Pr
def putS (a b : ByteArray) : ByteArray := if b.size = 0 then a ++ (⟨#[58]⟩ : ByteArray) else (a ++ (⟨#[58, 32]⟩ : ByteArray)) ++ b
theorem data_append (a b : ByteArray) : (a ++ b).data.toList = a.data.toList ++ b.data.toList := append_data a b
theorem putS_size (a b : ByteArray) : (putS a b).size ≤ a.size + 2 + b.size := by
  unfold putS
  by_cases h : b.size = 0
  · rw [if_pos h, ByteArray.size_append, show (⟨#[58]⟩ : ByteArray).size = 1 from rfl]
    omega
  · rw [if_neg h, ByteArray.size_append, ByteArray.size_append, show (⟨#[58, 32]⟩ : ByteArray).size = 2 from rfl]
    omega
theorem nil_size (b : ByteArray) : (b.toList = ([] : List UInt8)) ↔ b.size = 0 := by
  rw [ByteArray.toList_eq, size_eq_length]
  exact List.length_eq_zero_iff.symm
theorem ref05_Put (a b : ByteArray) (ha : a.size ≤ 140737488351232) (hb : b.size ≤ 140737488351232) : catchpitref05_Put.f a b = some (putS a b) := by
  unfold catchpitref05_Put.f putS
  by_cases h : b.size = 0
  · rw [if_pos (by omega), if_pos (by omega), if_pos h]
  · rw [if_neg (by omega), if_pos (by omega), if_pos (by rw [ByteArray.size_append, show (⟨#[58, 32]⟩ : ByteArray).size = 2 from rfl]; omega), if_neg h]
theorem field_Put_eq (a b : ByteArray) (ha : a.size ≤ 140737488351232) (hb : b.size ≤ 140737488351232) : field_Put.f a b = some (if rightB a b then putS a b else ⟨#[]⟩, if rightB a b then 0 else 1) := by
  unfold field_Put.f putS
  rw [field_Right_eq a b (by omega) (by omega), Option.bind_some]
  cases rightB a b with
  | false => rfl
  | true =>
    rw [if_pos rfl, if_pos rfl, if_pos rfl]
    by_cases h : b.size = 0
    · rw [if_pos ((nil_size b).2 h), if_pos (by omega), if_pos h]
    · rw [if_neg (fun e => h ((nil_size b).1 e)), if_pos (by omega), if_pos (by rw [ByteArray.size_append, show (⟨#[58, 32]⟩ : ByteArray).size = 2 from rfl]; omega), if_neg h]
end Go.Proofs.YtakbnoelbmgmhaaDoorH
end
section
namespace Go.Proofs.YtakbnoelbmgmhaaDoor.Pr
open Go.RowKit Go.Proofs.YtakbnoelbmgmhaaDoorH Go.Proofs.YtakbnoelbmgmhaaDoorW.PrintWords Go.Proofs.YtakbnoelbmgmhaaDoorW.PrintLast Go.Proofs.YtakbnoelbmgmhaaDoorW.PrintMore
attribute [local go_sem] max2_int min2_int max_two min_two max_three min_three max_four min_four   -- for this text's walks alone
set_option linter.unusedVariables false
set_option linter.unusedSimpArgs false
def catchpitref05_Great.l0 : Nat → List (S68) → Int → Int → Option (Bool)
  | 0, _, _, _ => none
  | k + 1, x0, x3, x4 => if x4 < (x0.length : Int) then (if x3 ≤ 2000 then (if 0 ≤ x4 then (catchpitref05_Great.l0 k x0 (wrap64 ((wrap64 ((wrap64 (x3 + (((rd_T68 x0 x4).f0).size : Int))) + (((rd_T68 x0 x4).f1).size : Int))) + 1)) (wrap64 (x4 + 1))) else (none)) else (some (decide (x3 > 2000)))) else (some (decide (x3 > 2000)))
def catchpitref05_Great.f (k : Nat) (l0 : List (S68)) : Option (Bool) := catchpitref05_Great.l0 k l0 0 0
theorem catchpitref05_Great.mono_l : ∀ k, (∀ y0 y1 y2, LeO (catchpitref05_Great.l0 k y0 y1 y2) (catchpitref05_Great.l0 (k + 1) y0 y1 y2))
  | 0 => fun _ _ _ r h => by simp [catchpitref05_Great.l0] at h
  | k + 1 => by
    have ih0 := catchpitref05_Great.mono_l k
    · intro y0 y1 y2
      unfold catchpitref05_Great.l0
      repeat' first
      | (with_reducible exact ih0 _ _ _)
      | (with_reducible exact LeO.refl _)
      | (with_reducible exact LeO.none _)
      | (with_reducible refine LeO.ite ?_ ?_)
      | (with_reducible refine LeO.bind ?_ (fun _ => ?_))
      | exact ih0 _ _ _
      | exact LeO.none _
      | refine LeO.ite ?_ ?_
      | refine LeO.bind ?_ (fun _ => ?_)
theorem catchpitref05_Great.mono : ∀ a0 k, LeO (catchpitref05_Great.f k a0) (catchpitref05_Great.f (k + 1) a0) := by
  intro a0 k
  have ih0 := catchpitref05_Great.mono_l k
  unfold catchpitref05_Great.f
  repeat' first
      | (with_reducible exact ih0 _ _ _)
      | (with_reducible exact LeO.refl _)
      | (with_reducible exact LeO.none _)
      | (with_reducible refine LeO.ite ?_ ?_)
      | (with_reducible refine LeO.bind ?_ (fun _ => ?_))
      | exact ih0 _ _ _
      | exact LeO.none _
      | refine LeO.ite ?_ ?_
      | refine LeO.bind ?_ (fun _ => ?_)
set_option maxHeartbeats 8000000 in
set_option maxRecDepth 100000 in
theorem catchpitref05_Great.calls (k : Nat) (A0 : Option Addr) (c0 : Nat) (l0 : List (S68)) (r : Bool) (w : World) (hr0 : Kd.C k68 w A0 l0.length l0) (hc0 : l0.length ≤ c0) (hG : TabOk w) (h : catchpitref05_Great.f k l0 = some r) :
    Calls Tryd.prog 10 #[.slice A0 l0.length c0] w fun e w' => e = .returned (.bool r) ∧ Drawn0 w w' := by
  have HR0 := Aside0.mk hr0
  have HC0 := Aside0.mk hc0
  clear hr0 hc0
  have H : (catchpitref05_Great.l0 k l0 0 0) = some r := h
  clear h
  have H' := Aside0.mk H
  clear H
  go_enter Tryd.func10, Tryd.ntmps10
  go_wp2
  repeat (go_quiet (fail); try go_wp2)
  go_loopg [3, 4] k (fun kq v3 v4 w' => ∃ (x3_1 : Int) (x4_1 : Int), v3 = .int .i64 x3_1 ∧ v4 = .int .i64 x4_1 ∧ Aside0 (catchpitref05_Great.l0 kq l0 x3_1 x4_1 = some r) ∧ Aside0 (kq ≤ k) ∧ Drawn0 w w')
  case atStart => exact ⟨(0), (0), (by first | rfl | (simp; done) | (simp [*]; done)), (by first | rfl | (simp; done) | (simp [*]; done)), H', ⟨Nat.le_refl _⟩, by repeat (first | exact Drawn0.refl _ | apply Drawn0.step)⟩
  case round =>
    clear H'
    try clear c1
    obtain ⟨x3_1, x4_1, rfl, rfl, HA, HK1, ⟨m1, rfl⟩⟩ := hrel
    cases gk with
    | zero => exact absurd HA.out (by simp [catchpitref05_Great.l0])
    | succ k1 =>
      have H := HA.out
      clear HA
      simp only [catchpitref05_Great.l0] at H
      by_cases c2 : x4_1 < (l0.length : Int)
      · rw [if_pos c2] at H
        have c2b0 : decide (x4_1 < (l0.length : Int)) = true := decide_eq_true c2
        clear c2
        by_cases c3 : x3_1 ≤ 2000
        · rw [if_pos c3] at H
          have c3b0 : decide (x3_1 ≤ 2000) = true := decide_eq_true c3
          clear c3
          by_cases c4 : 0 ≤ x4_1
          · rw [if_pos c4] at H
            have c4b0 : decide (0 ≤ x4_1) = true := decide_eq_true c4
            clear c4
            have H' := Aside0.mk H
            clear H
            have p104 : 0 ≤ (x4_1 : Int) := of_decide_eq_true (by first | (with_reducible assumption) | assumption)
            have q104 : x4_1 < (l0.length : Int) := of_decide_eq_true (by first | (with_reducible assumption) | assumption)
            obtain ⟨ad104, e104, hx104_0, hx104_1⟩ := at_T68 HR0.out x4_1 p104 q104
            cases e104
            replace p104 := eq_true p104
            replace q104 := eq_true q104
            have p105 : 0 ≤ (x4_1 : Int) := of_decide_eq_true (by first | (with_reducible assumption) | assumption)
            have q105 : x4_1 < (l0.length : Int) := of_decide_eq_true (by first | (with_reducible assumption) | assumption)
            obtain ⟨ad105, e105, hx105_0, hx105_1⟩ := at_T68 HR0.out x4_1 p105 q105
            obtain rfl : ad104 = ad105 := (by injection e105)
            replace p105 := eq_true p105
            replace q105 := eq_true q105
            go_wp2
            repeat (go_quiet (fail); try go_wp2)
            go_roundg k1
            case measure => have := HK1.out; omega
            case rel => exact ⟨(wrap64 ((wrap64 ((wrap64 (x3_1 + (((rd_T68 l0 x4_1).f0).size : Int))) + (((rd_T68 l0 x4_1).f1).size : Int))) + 1)), (wrap64 (x4_1 + 1)), (by first | rfl | (simp; done) | (simp [*]; done)), (by first | rfl | (simp; done) | (simp [*]; done)), H', ⟨by have := HK1.out; omega⟩, by repeat (first | exact Drawn0.refl _ | apply Drawn0.step)⟩
          · rw [if_neg c4] at H
            exact absurd H (by simp)
        · rw [if_neg c3] at H
          have c3b0 : decide (x3_1 ≤ 2000) = false := decide_eq_false c3
          clear c3
          obtain rfl := Option.some.inj H
          go_wp2
          repeat (go_quiet (fail); try go_wp2)
          go_ret
          exact ⟨by first | rfl | (simp; done) | (simp [*]; done), by repeat (first | exact Drawn0.refl _ | apply Drawn0.step)⟩
      · rw [if_neg c2] at H
        have c2b0 : decide (x4_1 < (l0.length : Int)) = false := decide_eq_false c2
        clear c2
        obtain rfl := Option.some.inj H
        go_wp2
        repeat (go_quiet (fail); try go_wp2)
        go_ret
        exact ⟨by first | rfl | (simp; done) | (simp [*]; done), by repeat (first | exact Drawn0.refl _ | apply Drawn0.step)⟩
end Go.Proofs.YtakbnoelbmgmhaaDoor.Pr
end
section
namespace Go.Proofs.YtakbnoelbmgmhaaDoor.Pr
end Go.Proofs.YtakbnoelbmgmhaaDoor.Pr
namespace Go.Proofs.YtakbnoelbmgmhaaDoorH
open Go.RowKit Go.Proofs.YtakbnoelbmgmhaaDoorW.PrintWords Go.Proofs.YtakbnoelbmgmhaaDoorW.PrintLast Go.Proofs.YtakbnoelbmgmhaaDoorW.PrintMore Go.Proofs.YtakbnoelbmgmhaaDoor.Pr
def bigF : Nat := 600000000000000
theorem ref05_Great_l0 (l : List Fld) (hl : Small1 l) (hn : l.length ≤ 140737488351232) (d : Nat) : ∀ (i n k : Nat), i ≤ l.length → l.length - i = d → d < k → n ≤ bigF →
    catchpitref05_Great.l0 k l (n : Int) (i : Int) = some (decide (2000 < n + sumF (l.drop i))) := by
  induction d with
  | zero =>
    intro i n k h1 h2 h3 h4
    obtain ⟨k, rfl⟩ : ∃ m, k = m + 1 := ⟨k - 1, by omega⟩
    rw [catchpitref05_Great.l0, if_neg (by omega), List.drop_eq_nil_of_le (by omega)]
    congr 1
    rw [decide_eq_decide]
    show _ ↔ 2000 < n + 0
    omega
  | succ d ih =>
    intro i n k h1 h2 h3 h4
    obtain ⟨k, rfl⟩ : ∃ m, k = m + 1 := ⟨k - 1, by omega⟩
    have hi : i < l.length := by omega
    rw [catchpitref05_Great.l0, if_pos (by omega), drop_cons l z68 i hi, sumF_cons, rd_nat]
    have hx := hl _ (mem_getD l z68 i hi)
    generalize l.getD i z68 = x at *
    by_cases h : n ≤ 2000
    · rw [if_pos (by omega), if_pos (by omega)]
      have a1 : i + 1 ≤ l.length := hi
      have a2 : l.length - (i + 1) = d := by omega
      have a3 : d < k := by omega
      have a4 : n + x.f0.size + x.f1.size + 1 ≤ bigF := by unfold bigF at *; omega
      have b1 : n + x.f0.size < 4611686018427387904 := by omega
      have b2 : n + x.f0.size + x.f1.size < 4611686018427387904 := by omega
      have b4 : i < 4611686018427387904 := by omega
      have e1 := wrapN n x.f0.size b1
      have e2 := wrapN (n + x.f0.size) x.f1.size b2
      have e3 := wrapS (n + x.f0.size + x.f1.size) b2
      have e4 := wrapS i b4
      have hh := ih (i + 1) (n + x.f0.size + x.f1.size + 1) k a1 a2 a3 a4
      rw [e1, e2, e3, e4, hh]
      clear e1 e2 e3 e4 hh ih
      congr 1
      rw [decide_eq_decide]
      omega
    · rw [if_neg (by omega)]
      congr 1
      rw [decide_eq_decide]
      omega
theorem ref05_Great (l : List Fld) (hl : Small1 l) (hn : l.length ≤ 140737488351232) : Ev (fun k => catchpitref05_Great.f k l) (decide (2000 < sumF l)) := by
  refine ⟨l.length + 1, fun k hk => ?_⟩
  have := ref05_Great_l0 l hl hn l.length 0 0 k (Nat.zero_le _) rfl (by omega) (Nat.zero_le _)
  rw [Nat.zero_add, List.drop_zero] at this
  exact this
end Go.Proofs.YtakbnoelbmgmhaaDoorH
end
section
namespace Go.Proofs.YtakbnoelbmgmhaaDoor.Pr
open Go.RowKit Go.Proofs.YtakbnoelbmgmhaaDoorH Go.Proofs.YtakbnoelbmgmhaaDoorW.PrintWords Go.Proofs.YtakbnoelbmgmhaaDoorW.PrintLast Go.Proofs.YtakbnoelbmgmhaaDoorW.PrintMore
attribute [local go_sem] max2_int min2_int max_two min_two max_three min_three max_four min_four   -- for this text's walks alone
set_option linter.unusedVariables false
set_option linter.unusedSimpArgs false
def octet_Alike.f (a0 : ByteArray) (a1 : ByteArray) : Option (Bool) := (octet_Small.f a0).bind fun t142 => ((octet_Small.f a1).bind fun t143 => (some (t142.toList == t143.toList)))
def field_Is.f (a0_0 : ByteArray) (a0_1 : ByteArray) (a1 : ByteArray) : Option (Bool) := (octet_Alike.f a0_0 a1).bind fun t145 => (some t145)
end Go.Proofs.YtakbnoelbmgmhaaDoor.Pr
end
section
namespace Go.Proofs.YtakbnoelbmgmhaaDoor.Pr
end Go.Proofs.YtakbnoelbmgmhaaDoor.Pr
namespace Go.Proofs.YtakbnoelbmgmhaaDoorH
open Go.RowKit Go.Proofs.YtakbnoelbmgmhaaDoorW.PrintWords Go.Proofs.YtakbnoelbmgmhaaDoorW.PrintLast Go.Proofs.YtakbnoelbmgmhaaDoorW.PrintMore Go.Proofs.YtakbnoelbmgmhaaDoor.Pr
theorem builder_below {T e : TypeId} {B b : Nat} {p : Value} {bs : List Value} {w w1 : World} (h : Lib.BuilderAt T e B b p bs w) (hb : Below w.heap.size w w1) : Lib.BuilderAt T e B b p bs w1 := by
  have hlt := h.lt
  obtain ⟨hB, v, hbk, hown, hne⟩ := h
  refine ⟨hB, v, (hb.block b hlt).trans hbk, ⟨hown.1, ?_⟩, hne⟩
  rcases hown.2 with hn | ⟨g, cap, cur, rfl, hg, hgg, rest⟩
  · exact .inl hn
  · exact .inr ⟨g, cap, cur, rfl, hg, (hb.block g (Array.getElem?_eq_some_iff.1 hgg).1).trans hgg, rest⟩
theorem isBuilder_below {T e : TypeId} {B b : Nat} {bs : List Value} {w w1 : World} (h : Lib.IsBuilder T e B b bs w) (hb : Below w.heap.size w w1) : Lib.IsBuilder T e B b bs w1 :=
  h.elim (fun h => .inl (builder_below h hb)) (fun h => .inr (builder_below h hb))
def linesL : List Fld → List UInt8
  | [] => []
  | x :: l => (putS x.f0 x.f1).data.toList ++ ([13, 10] ++ linesL l)
theorem linesL_append : ∀ a b : List Fld, linesL (a ++ b) = linesL a ++ linesL b
  | [], b => rfl
  | x :: a, b => by
    rw [List.cons_append, linesL, linesL_append a b, linesL]
    simp
theorem linesL_length : ∀ l : List Fld, (linesL l).length ≤ 4 * sumF l
  | [] => Nat.le_refl _
  | x :: l => by
    have h1 := linesL_length l
    have h2 := putS_size x.f0 x.f1
    rw [linesL, sumF_cons, List.length_append, List.length_append, ← size_eq_length]
    simp only [List.length_cons, List.length_nil]
    omega
def allRight (l : List Fld) : Bool := l.all fun x => rightB x.f0 x.f1
theorem allRight_step (l : List Fld) (k : Nat) (h : k < l.length) : allRight (l.take (k + 1)) = (allRight (l.take k) && rightB (l.getD k z68).f0 (l.getD k z68).f1) := by
  rw [take_one l z68 k h]
  unfold allRight
  rw [List.all_append]
  simp
theorem allRight_not (l : List Fld) (x : Fld) (h : x ∈ l) (hr : rightB x.f0 x.f1 = false) : allRight l = false := by
  unfold allRight
  rw [List.all_eq_false]
  exact ⟨x, h, by simp [hr]⟩
theorem sumF_take (l : List Fld) (k : Nat) : sumF (l.take k) ≤ sumF l := by
  have : sumF l = sumF (l.take k) + sumF (l.drop k) := by
    unfold sumF
    rw [← List.sum_append, ← List.map_append, List.take_append_drop]
  omega
def sectL (l : List Fld) : ByteArray := ⟨(linesL l ++ [13, 10]).toArray⟩
def putR (l : List Fld) : ByteArray × Int := if allRight l then (sectL l, 0) else (⟨#[]⟩, 1)
set_option maxHeartbeats 1600000 in
set_option maxRecDepth 100000 in
theorem put_calls (A0 : Option Addr) (c0 : Nat) (l : List Fld) (w : World) (hr : Kd.C k68 w A0 l.length l) (_hc : l.length ≤ c0) (hl : Small1 l) (hs : sumF l ≤ 1000000) (hG : TabOk w) :
    Calls Tryd.prog 30 #[.slice A0 l.length c0] w fun e w' => ∃ (r1 : ByteArray) (r2 : Int), e = .returned (.tuple #[.string r1, .int .i64 r2]) ∧ putR l = (r1, r2) ∧ Below w.heap.size w w' := by
  have HR := Aside0.mk hr
  have HG := Aside0.mk hG
  have HL := Aside0.mk hl
  have HLEN := Aside0.mk (sumF_length l)
  have HS := Aside0.mk hs
  have hn : l.length ≤ 1000000 := Nat.le_trans (sumF_length l) hs
  clear hr hG hl hs
  go_enter Tryd.func30, Tryd.ntmps30
  go_wp2
  go_loopw [11] (fun v11 wr => ∃ k : Nat, k ≤ l.length ∧ v11 = .int .i64 k ∧ Aside0 (allRight (l.take k) = true) ∧ Aside0 (Lib.IsBuilder 93 5 w.heap.size w.heap.size (Lib.byteCells (linesL (l.take k))) wr) ∧ Aside0 (Below w.heap.size w wr)) (fun v11 _ => l.length - (intOf v11).toNat)
  case atStart => exact ⟨0, Nat.zero_le _, rfl, ⟨rfl⟩, ⟨Lib.fresh_isBuilder _ _ w⟩, ⟨below_alloc (Below.refl _ _) _⟩⟩
  case round =>
    obtain ⟨k, hk, rfl, hrt, ho, hb⟩ := hrel
    by_cases hlt : k < l.length
    · obtain ⟨ad, e, hx0, hx1⟩ := at_T68 HR.out (k : Int) (by omega) (by omega)
      cases e
      have hx0 := (hb.out.cell (World.block_lt_of_cell? w _ hx0)).trans hx0
      have hx1 := (hb.out.cell (World.block_lt_of_cell? w _ hx1)).trans hx1
      have HX := Aside0.mk (mem_getD l z68 k hlt)
      have HT := Aside0.mk (take_one l z68 k hlt)
      have HST := Aside0.mk (allRight_step l k hlt)
      unfold rd_T68 at hx0 hx1
      rw [Int.toNat_natCast] at hx0 hx1
      generalize l.getD k z68 = x at *
      have HXS := Aside0.mk (HL.out x HX.out)
      have HB1 := Aside0.mk (show Lib.IsBuilder 93 5 w.heap.size w.heap.size (Lib.byteCells (linesL (l.take k))) (wr.alloc (.cells #[.string x.f0, .string x.f1] 68)) from isBuilder_below ho.out (below_alloc (Below.refl _ _) _))
      have HPS := Aside0.mk (Nat.le_trans (putS_size x.f0 x.f1) (show x.f0.size + 2 + x.f1.size ≤ 1000002 by have := sumF_at l x HX.out; have := HS.out; omega))
      have HLL := Aside0.mk (Nat.le_trans (linesL_length (l.take k)) (show 4 * sumF (l.take k) ≤ 4000000 by have := sumF_take l k; have := HS.out; omega))
      have HLS := Aside0.mk (show Lib.byteCells (linesL (l.take (k + 1))) = Lib.byteCells (linesL (l.take k)) ++ Lib.strCells (putS x.f0 x.f1 ++ (⟨#[13, 10]⟩ : ByteArray)) by
        rw [HT.out, linesL_append, Lib.strCells_eq, data_append]
        simp [Lib.byteCells, linesL])
      cases hrb : rightB x.f0 x.f1 with
      | false =>
        have HP := Aside0.mk (show field_Put.f x.f0 x.f1 = some (⟨#[]⟩, 1) by rw [field_Put_eq x.f0 x.f1 HXS.out.1 HXS.out.2, hrb]; rfl)
        have HAR := Aside0.mk (allRight_not l x HX.out hrb)
        clear hrb
        go_wp2_with fail
        refine (field_Put.calls x.f0 x.f1 _ _ _ (HG.out.below (hb.out.alloc hb.out.size _)) HP.out).mono ?_
        rintro e w1 ⟨rfl, b1⟩
        have B1 := Aside0.mk ((hb.out.alloc hb.out.size _).trans (b1.mono (Nat.le_trans hb.out.size (by simp))))
        clear b1
        go_wp2
        go_ret2
        exact ⟨_, _, rfl, by unfold putR; rw [HAR.out]; rfl, B1.out⟩
      | true =>
        have HP := Aside0.mk (show field_Put.f x.f0 x.f1 = some (putS x.f0 x.f1, 0) by rw [field_Put_eq x.f0 x.f1 HXS.out.1 HXS.out.2, hrb]; rfl)
        have HRB := Aside0.mk hrb
        clear hrb
        generalize putS x.f0 x.f1 = s at *
        go_wp2_with fail
        refine (field_Put.calls x.f0 x.f1 _ _ _ (HG.out.below (hb.out.alloc hb.out.size _)) HP.out).mono ?_
        rintro e w1 ⟨rfl, b1⟩
        have B1 := Aside0.mk ((hb.out.alloc hb.out.size _).trans (b1.mono (Nat.le_trans hb.out.size (by simp))))
        have O1 := Aside0.mk (isBuilder_below HB1.out b1)
        clear b1
        have c0 : s.size + 2 ≤ 9223372036854775807 := by have := HPS.out; omega
        have c1 := eq_true c0
        have c2 : decide (s.size + 2 ≤ 9223372036854775807) = true := decide_eq_true c0
        have c3 : (9223372036854775807 < s.size + 2) = False := eq_false (Nat.not_lt.2 c0)
        go_wp2_with fail
        refine (writeString_calls w.heap.size w.heap.size (Lib.byteCells (linesL (l.take k))) (s ++ (⟨#[13, 10]⟩ : ByteArray)) w1 O1.out (by have := HLL.out; have := HPS.out; rw [Lib.byteCells_length, ByteArray.size_append, show (⟨#[13, 10]⟩ : ByteArray).size = 2 from rfl]; omega) B1.out.size).mono ?_
        rintro e w2 ⟨rfl, h2, b2⟩
        have O2 := Aside0.mk (show Lib.IsBuilder 93 5 w.heap.size w.heap.size (Lib.byteCells (linesL (l.take (k + 1)))) w2 by rw [HLS.out]; exact .inr h2)
        have B2 := Aside0.mk (B1.out.trans b2)
        clear h2 b2
        go_wp2
        go_roundw
        case rel => exact ⟨k + 1, by omega, by go_num, ⟨by rw [HST.out, hrt.out, HRB.out]; rfl⟩, O2, B2⟩
        case measure => simp [intOf]; omega
    · have hke : k = l.length := by omega
      subst hke
      rw [List.take_length] at ho hrt
      have HLL := Aside0.mk (Nat.le_trans (linesL_length l) (show 4 * sumF l ≤ 4000000 by have := HS.out; omega))
      go_wp2_with fail
      refine (Tryd.Builder_String_any w.heap.size w.heap.size (linesL l) wr ho.out hb.out.size).mono ?_
      rintro e w1 ⟨rfl, b1⟩
      have B1 := Aside0.mk (hb.out.trans b1)
      have HE := Aside0.mk (show (⟨(linesL l).toArray⟩ : ByteArray) ++ (⟨#[13, 10]⟩ : ByteArray) = sectL l from bytes_ext (by rw [data_append]; rfl))
      have c0 : (⟨(linesL l).toArray⟩ : ByteArray).size + 2 ≤ 9223372036854775807 := by have := HLL.out; rw [size_eq_length]; show (linesL l).length + 2 ≤ _; omega
      clear b1
      generalize (⟨(linesL l).toArray⟩ : ByteArray) = s at *
      have c1 := eq_true c0
      have c2 : decide (s.size + 2 ≤ 9223372036854775807) = true := decide_eq_true c0
      have c3 : (9223372036854775807 < s.size + 2) = False := eq_false (Nat.not_lt.2 c0)
      go_wp2
      go_ret2
      exact ⟨_, _, rfl, by unfold putR; rw [hrt.out, if_pos rfl, ← HE.out], B1.out⟩
def block_Put.f (l0 : List Fld) : Option (ByteArray × Int) := if (l0.all fun x => decide (x.f0.size ≤ 140737488351232 ∧ x.f1.size ≤ 140737488351232)) && decide (sumF l0 ≤ 1000000) then some (putR l0) else none
theorem block_Put.calls (A0 : Option Addr) (c0 : Nat) (l0 : List Fld) (r1 : ByteArray) (r2 : Int) (w : World) (hr0 : Kd.C k68 w A0 l0.length l0) (hc0 : l0.length ≤ c0) (hG : TabOk w) (h : block_Put.f l0 = some (r1, r2)) :
    Calls Tryd.prog 30 #[.slice A0 l0.length c0] w fun e w' => e = .returned (.tuple #[.string r1, .int .i64 r2]) ∧ Below w.heap.size w w' := by
  unfold block_Put.f at h
  split at h
  · rename_i hh
    rw [Bool.and_eq_true, List.all_eq_true] at hh
    injection h with h
    refine (put_calls A0 c0 l0 w hr0 hc0 (fun y hy => of_decide_eq_true (hh.1 y hy)) (of_decide_eq_true hh.2) hG).mono ?_
    rintro e w' ⟨q1, q2, he, hq, hb⟩
    rw [h] at hq
    injection hq with e1 e2
    subst e1 e2
    exact ⟨he, hb⟩
  · cases h
end Go.Proofs.YtakbnoelbmgmhaaDoorH
end
section
namespace Go.Proofs.YtakbnoelbmgmhaaDoor.Pr
open Go.RowKit Go.Proofs.YtakbnoelbmgmhaaDoorH Go.Proofs.YtakbnoelbmgmhaaDoorW.PrintWords Go.Proofs.YtakbnoelbmgmhaaDoorW.PrintLast Go.Proofs.YtakbnoelbmgmhaaDoorW.PrintMore
attribute [local go_sem] max2_int min2_int max_two min_two max_three min_three max_four min_four   -- for this text's walks alone
set_option linter.unusedVariables false
set_option linter.unusedSimpArgs false
def catchpitref06_Put.l0 : Nat → List (S68) → ByteArray → Int → Option (ByteArray × Bool)
  | 0, _, _, _ => none
  | k + 1, x0, x4, x5 => if x5 < (x0.length : Int) then (if 0 ≤ x5 then ((catchpitref05_Right.f k ((rd_T68 x0 x5).f0) ((rd_T68 x0 x5).f1)).bind fun t125 => (if t125 = true then ((catchpitref05_Put.f ((rd_T68 x0 x5).f0) ((rd_T68 x0 x5).f1)).bind fun t127 => (if x4.size + t127.size ≤ 9223372036854775807 then (if (x4 ++ t127).size + 2 ≤ 9223372036854775807 then (catchpitref06_Put.l0 k x0 ((x4 ++ t127) ++ (⟨#[13, 10]⟩ : ByteArray)) (wrap64 (x5 + 1))) else (none)) else (none))) else (some ((⟨#[]⟩ : ByteArray), false)))) else (none)) else (if x4.size + 2 ≤ 9223372036854775807 then (some (x4 ++ (⟨#[13, 10]⟩ : ByteArray), true)) else (none))
def catchpitref06_Put.f (k : Nat) (l0 : List (S68)) : Option (ByteArray × Bool) := catchpitref06_Put.l0 k l0 (⟨#[]⟩ : ByteArray) 0
theorem catchpitref06_Put.mono_l : ∀ k, (∀ y0 y1 y2, LeO (catchpitref06_Put.l0 k y0 y1 y2) (catchpitref06_Put.l0 (k + 1) y0 y1 y2))
  | 0 => fun _ _ _ r h => by simp [catchpitref06_Put.l0] at h
  | k + 1 => by
    have ih0 := catchpitref06_Put.mono_l k
    · intro y0 y1 y2
      unfold catchpitref06_Put.l0
      repeat' first
      | (with_reducible exact ih0 _ _ _)
      | (with_reducible exact catchpitref05_Right.mono _ _ _)
      | (with_reducible exact LeO.refl _)
      | (with_reducible exact LeO.none _)
      | (with_reducible refine LeO.ite ?_ ?_)
      | (with_reducible refine LeO.bind ?_ (fun _ => ?_))
      | exact ih0 _ _ _
      | exact catchpitref05_Right.mono _ _ _
      | exact LeO.none _
      | refine LeO.ite ?_ ?_
      | refine LeO.bind ?_ (fun _ => ?_)
theorem catchpitref06_Put.mono : ∀ a0 k, LeO (catchpitref06_Put.f k a0) (catchpitref06_Put.f (k + 1) a0) := by
  intro a0 k
  have ih0 := catchpitref06_Put.mono_l k
  unfold catchpitref06_Put.f
  repeat' first
      | (with_reducible exact ih0 _ _ _)
      | (with_reducible exact catchpitref05_Right.mono _ _ _)
      | (with_reducible exact LeO.refl _)
      | (with_reducible exact LeO.none _)
      | (with_reducible refine LeO.ite ?_ ?_)
      | (with_reducible refine LeO.bind ?_ (fun _ => ?_))
      | exact ih0 _ _ _
      | exact catchpitref05_Right.mono _ _ _
      | exact LeO.none _
      | refine LeO.ite ?_ ?_
      | refine LeO.bind ?_ (fun _ => ?_)
set_option maxHeartbeats 8000000 in
set_option maxRecDepth 100000 in
theorem catchpitref06_Put.calls (k : Nat) (A0 : Option Addr) (c0 : Nat) (l0 : List (S68)) (r1 : ByteArray) (r2 : Bool) (w : World) (hr0 : Kd.C k68 w A0 l0.length l0) (hc0 : l0.length ≤ c0) (hG : TabOk w) (h : catchpitref06_Put.f k l0 = some (r1, r2)) :
    Calls Tryd.prog 31 #[.slice A0 l0.length c0] w fun e w' => e = .returned (.tuple #[.string r1, .bool r2]) ∧ Below w.heap.size w w' := by
  have hu68 := Tryd.underlying68
  have HR0 := Aside0.mk hr0
  have HC0 := Aside0.mk hc0
  clear hr0 hc0
  have HB := Aside0.mk (Below.refl w.heap.size w)
  have H : (catchpitref06_Put.l0 k l0 (⟨#[]⟩ : ByteArray) 0) = some (r1, r2) := h
  clear h
  have H' := Aside0.mk H
  clear H
  go_enter Tryd.func31, Tryd.ntmps31
  go_wp2
  go_loopg [4, 5] k (fun kq v4 v5 w' => ∃ (x4_1 : ByteArray) (x5_1 : Int), v4 = .string x4_1 ∧ v5 = .int .i64 x5_1 ∧ Aside0 (catchpitref06_Put.l0 kq l0 x4_1 x5_1 = some (r1, r2)) ∧ Aside0 (kq ≤ k) ∧ Aside0 (Below w.heap.size w w'))
  case atStart => exact ⟨((⟨#[]⟩ : ByteArray)), (0), (by first | rfl | (simp; done) | (simp [*]; done)), (by first | rfl | (simp; done) | (simp [*]; done)), H', ⟨Nat.le_refl _⟩, ⟨by repeat (first | (with_reducible first | exact HB.out | apply below_alloc | apply pw_below_drewN | apply below_drew1) | exact HB.out)⟩⟩
  case round =>
    clear H'
    obtain ⟨x4_1, x5_1, rfl, rfl, HA, HK1, HB⟩ := hrel
    cases gk with
    | zero => exact absurd HA.out (by simp [catchpitref06_Put.l0])
    | succ k1 =>
      have H := HA.out
      clear HA
      simp only [catchpitref06_Put.l0] at H
      by_cases c2 : x5_1 < (l0.length : Int)
      · rw [if_pos c2] at H
        have c2b0 : decide (x5_1 < (l0.length : Int)) = true := decide_eq_true c2
        clear c2
        by_cases c3 : 0 ≤ x5_1
        · rw [if_pos c3] at H
          have c3b0 : decide (0 ≤ x5_1) = true := decide_eq_true c3
          clear c3
          replace H := Option.bind_eq_some_iff.mp H
          obtain ⟨t125, A40, H⟩ := H
          replace H : (if t125 = true then ((catchpitref05_Put.f ((rd_T68 l0 x5_1).f0) ((rd_T68 l0 x5_1).f1)).bind fun t127 => (if x4_1.size + t127.size ≤ 9223372036854775807 then (if (x4_1 ++ t127).size + 2 ≤ 9223372036854775807 then (catchpitref06_Put.l0 k1 l0 ((x4_1 ++ t127) ++ (⟨#[13, 10]⟩ : ByteArray)) (wrap64 (x5_1 + 1))) else (none)) else (none))) else (some ((⟨#[]⟩ : ByteArray), false))) = some (r1, r2) := H
          have A4 := Aside0.mk A40
          clear A40
          by_cases c5 : t125 = true
          · subst c5
            have H1 : ((catchpitref05_Put.f ((rd_T68 l0 x5_1).f0) ((rd_T68 l0 x5_1).f1)).bind fun t127 => (if x4_1.size + t127.size ≤ 9223372036854775807 then (if (x4_1 ++ t127).size + 2 ≤ 9223372036854775807 then (catchpitref06_Put.l0 k1 l0 ((x4_1 ++ t127) ++ (⟨#[13, 10]⟩ : ByteArray)) (wrap64 (x5_1 + 1))) else (none)) else (none))) = some (r1, r2) := by rw [if_pos rfl] at H; exact H
            clear H
            have H := H1
            clear H1
            replace H := Option.bind_eq_some_iff.mp H
            obtain ⟨t127, A60, H⟩ := H
            replace H : (if x4_1.size + t127.size ≤ 9223372036854775807 then (if (x4_1 ++ t127).size + 2 ≤ 9223372036854775807 then (catchpitref06_Put.l0 k1 l0 ((x4_1 ++ t127) ++ (⟨#[13, 10]⟩ : ByteArray)) (wrap64 (x5_1 + 1))) else (none)) else (none)) = some (r1, r2) := H
            have A6 := Aside0.mk A60
            clear A60
            by_cases c7 : x4_1.size + t127.size ≤ 9223372036854775807
            · rw [if_pos c7] at H
              have c7b0 := eq_true c7
              have c7b1 : decide (x4_1.size + t127.size ≤ 9223372036854775807) = true := decide_eq_true c7
              try have c7b2 : (9223372036854775807 < x4_1.size + t127.size) = False := eq_false (Nat.not_lt.2 c7)
              by_cases c8 : (x4_1 ++ t127).size + 2 ≤ 9223372036854775807
              · rw [if_pos c8] at H
                have c8b0 := eq_true c8
                try simp only [ByteArray.size_append, ByteArray.size_extract, Nat.min_self] at c8b0
                have c8b1 : decide ((x4_1 ++ t127).size + 2 ≤ 9223372036854775807) = true := decide_eq_true c8
                try simp only [ByteArray.size_append, ByteArray.size_extract, Nat.min_self] at c8b1
                try have c8b2 : (9223372036854775807 < (x4_1 ++ t127).size + 2) = False := eq_false (Nat.not_lt.2 c8)
                try simp only [ByteArray.size_append, ByteArray.size_extract, Nat.min_self] at c8b2
                have H' := Aside0.mk H
                clear H
                have p124 : 0 ≤ (x5_1 : Int) := of_decide_eq_true (by first | (with_reducible assumption) | assumption)
                have q124 : x5_1 < (l0.length : Int) := of_decide_eq_true (by first | (with_reducible assumption) | assumption)
                obtain ⟨ad124, e124, hx124_0, hx124_1⟩ := at_T68 HR0.out x5_1 p124 q124
                cases e124
                replace hx124_0 := (HB.out.cell (World.block_lt_of_cell? w _ hx124_0)).trans hx124_0
                replace hx124_1 := (HB.out.cell (World.block_lt_of_cell? w _ hx124_1)).trans hx124_1
                replace p124 := eq_true p124
                replace q124 := eq_true q124
                go_wp2_with (first | ((with_reducible refine gate_callee (f := 34) rfl ?_); refine goesL_ (some 16) rfl rfl Tryd.func34 (by kernel_rfl) rfl #[.agg #[.string ((rd_T68 l0 x5_1).f0), .string ((rd_T68 l0 x5_1).f1)]] rfl (by (try simp only [List.map_toArray, List.map_cons, List.map_nil]); first | done | rfl | (simp only [List.length_drop, List.length_take]; rfl)) ?_; (with_reducible refine (catchpitref05_Right.calls k1 ((rd_T68 l0 x5_1).f0) ((rd_T68 l0 x5_1).f1) true _ ?side1 A4.out).mono ?_); (case side1 => first | exact hG | exact TabOk.drewN hG _ | exact TabOk.drewN (TabOk.drewN hG _) _ | exact TabOk.below hG (by repeat (first | (with_reducible first | exact HB.out | apply below_alloc | apply pw_below_drewN | apply below_drew1) | exact HB.out))); rintro e w9 ⟨rfl, hb⟩; refine ⟨_, rfl, ?_⟩; have n0_ := Aside0.mk (below_step (by repeat (first | (with_reducible first | exact HB.out | apply below_alloc | apply pw_below_drewN | apply below_drew1) | exact HB.out)) hb); clear HB; have HB := n0_; clear n0_; (try clear hb); (try clear hb2); (try clear hk); (try clear hi); have p126 : 0 ≤ (x5_1 : Int) := of_decide_eq_true (by first | (with_reducible assumption) | assumption); have q126 : x5_1 < (l0.length : Int) := of_decide_eq_true (by first | (with_reducible assumption) | assumption); obtain ⟨ad126, e126, hx126_0, hx126_1⟩ := at_T68 HR0.out x5_1 p126 q126; obtain rfl : ad124 = ad126 := (by injection e126); replace hx126_0 := (HB.out.cell (World.block_lt_of_cell? w _ hx126_0)).trans hx126_0; replace hx126_1 := (HB.out.cell (World.block_lt_of_cell? w _ hx126_1)).trans hx126_1; replace p126 := eq_true p126; replace q126 := eq_true q126) | ((with_reducible refine gate_callee (f := 41) rfl ?_); refine goesL_ (some 23) rfl rfl Tryd.func41 (by kernel_rfl) rfl #[.agg #[.string ((rd_T68 l0 x5_1).f0), .string ((rd_T68 l0 x5_1).f1)]] rfl (by (try simp only [List.map_toArray, List.map_cons, List.map_nil]); first | done | rfl | (simp only [List.length_drop, List.length_take]; rfl)) ?_; (with_reducible refine (catchpitref05_Put.calls ((rd_T68 l0 x5_1).f0) ((rd_T68 l0 x5_1).f1) t127 _ ?side1 A6.out).mono ?_); (case side1 => first | exact hG | exact TabOk.drewN hG _ | exact TabOk.drewN (TabOk.drewN hG _) _ | exact TabOk.below hG (by repeat (first | (with_reducible first | exact HB.out | apply below_alloc | apply pw_below_drewN | apply below_drew1) | exact HB.out))); rintro e w10 ⟨rfl, hb⟩; refine ⟨_, rfl, ?_⟩; have n0_ := Aside0.mk (below_step (by repeat (first | (with_reducible first | exact HB.out | apply below_alloc | apply pw_below_drewN | apply below_drew1) | exact HB.out)) hb); clear HB; have HB := n0_; clear n0_; (try clear hb); (try clear hb2); (try clear hk); (try clear hi)))
                go_roundg k1
                case measure => have := HK1.out; omega
                case rel => exact ⟨((x4_1 ++ t127) ++ (⟨#[13, 10]⟩ : ByteArray)), (wrap64 (x5_1 + 1)), (by first | rfl | (simp; done) | (simp [*]; done)), (by first | rfl | (simp; done) | (simp [*]; done)), H', ⟨by have := HK1.out; omega⟩, ⟨by repeat (first | (with_reducible first | exact HB.out | apply below_alloc | apply pw_below_drewN | apply below_drew1) | exact HB.out)⟩⟩
              · rw [if_neg c8] at H
                exact absurd H (by simp)
            · rw [if_neg c7] at H
              exact absurd H (by simp)
          · replace c5 := Bool.eq_false_iff.mpr c5
            subst c5
            have H1 : (some ((⟨#[]⟩ : ByteArray), false)) = some (r1, r2) := by rw [if_neg (show ¬ (false = true) by decide)] at H; exact H
            clear H
            have H := H1
            clear H1
            simp only [Option.some.injEq, Prod.mk.injEq] at H
            obtain ⟨rfl, rfl⟩ := H
            have p124 : 0 ≤ (x5_1 : Int) := of_decide_eq_true (by first | (with_reducible assumption) | assumption)
            have q124 : x5_1 < (l0.length : Int) := of_decide_eq_true (by first | (with_reducible assumption) | assumption)
            obtain ⟨ad124, e124, hx124_0, hx124_1⟩ := at_T68 HR0.out x5_1 p124 q124
            cases e124
            replace hx124_0 := (HB.out.cell (World.block_lt_of_cell? w _ hx124_0)).trans hx124_0
            replace hx124_1 := (HB.out.cell (World.block_lt_of_cell? w _ hx124_1)).trans hx124_1
            replace p124 := eq_true p124
            replace q124 := eq_true q124
            go_wp2_with (first | ((with_reducible refine gate_callee (f := 34) rfl ?_); refine goesL_ (some 16) rfl rfl Tryd.func34 (by kernel_rfl) rfl #[.agg #[.string ((rd_T68 l0 x5_1).f0), .string ((rd_T68 l0 x5_1).f1)]] rfl (by (try simp only [List.map_toArray, List.map_cons, List.map_nil]); first | done | rfl | (simp only [List.length_drop, List.length_take]; rfl)) ?_; (with_reducible refine (catchpitref05_Right.calls k1 ((rd_T68 l0 x5_1).f0) ((rd_T68 l0 x5_1).f1) false _ ?side1 A4.out).mono ?_); (case side1 => first | exact hG | exact TabOk.drewN hG _ | exact TabOk.drewN (TabOk.drewN hG _) _ | exact TabOk.below hG (by repeat (first | (with_reducible first | exact HB.out | apply below_alloc | apply pw_below_drewN | apply below_drew1) | exact HB.out))); rintro e w11 ⟨rfl, hb⟩; refine ⟨_, rfl, ?_⟩; have n0_ := Aside0.mk (below_step (by repeat (first | (with_reducible first | exact HB.out | apply below_alloc | apply pw_below_drewN | apply below_drew1) | exact HB.out)) hb); clear HB; have HB := n0_; clear n0_; (try clear hb); (try clear hb2); (try clear hk); (try clear hi)))
            go_ret2
            exact ⟨by first | rfl | (simp [errW_none, errW_some] <;> rfl) | (simp [*, errW_none, errW_some] <;> rfl), by repeat (first | (with_reducible first | exact HB.out | apply below_alloc | apply pw_below_drewN | apply below_drew1) | exact HB.out)⟩
        · rw [if_neg c3] at H
          exact absurd H (by simp)
      · rw [if_neg c2] at H
        have c2b0 : decide (x5_1 < (l0.length : Int)) = false := decide_eq_false c2
        clear c2
        by_cases c12 : x4_1.size + 2 ≤ 9223372036854775807
        · rw [if_pos c12] at H
          have c12b0 := eq_true c12
          have c12b1 : decide (x4_1.size + 2 ≤ 9223372036854775807) = true := decide_eq_true c12
          try have c12b2 : (9223372036854775807 < x4_1.size + 2) = False := eq_false (Nat.not_lt.2 c12)
          simp only [Option.some.injEq, Prod.mk.injEq] at H
          obtain ⟨rfl, rfl⟩ := H
          go_wp2
          go_ret2
          exact ⟨by first | rfl | (simp [errW_none, errW_some] <;> rfl) | (simp [*, errW_none, errW_some] <;> rfl), by repeat (first | (with_reducible first | exact HB.out | apply below_alloc | apply pw_below_drewN | apply below_drew1) | exact HB.out)⟩
        · rw [if_neg c12] at H
          exact absurd H (by simp)
end Go.Proofs.YtakbnoelbmgmhaaDoor.Pr
end
section
namespace Go.Proofs.YtakbnoelbmgmhaaDoor.Pr
end Go.Proofs.YtakbnoelbmgmhaaDoor.Pr
namespace Go.Proofs.YtakbnoelbmgmhaaDoorH
open Go.RowKit Go.Proofs.YtakbnoelbmgmhaaDoorW.PrintWords Go.Proofs.YtakbnoelbmgmhaaDoorW.PrintLast Go.Proofs.YtakbnoelbmgmhaaDoorW.PrintMore Go.Proofs.YtakbnoelbmgmhaaDoor.Pr
theorem sectL_data (l : List Fld) : (sectL l).data.toList = linesL l ++ [13, 10] := rfl
theorem sectL_size (l : List Fld) : (sectL l).size = (linesL l).length + 2 := by rw [size_eq_length, sectL_data, List.length_append]; rfl
theorem block_Put_eq (l : List Fld) (hl : Small1 l) (hs : sumF l ≤ 1000000) : block_Put.f l = some (putR l) := by
  unfold block_Put.f
  rw [decide_eq_true hs, Bool.and_true, if_pos]
  rw [List.all_eq_true]
  exact fun x hx => decide_eq_true (hl x hx)
theorem sectL_le (l : List Fld) : (sectL l).size ≤ 4 * sumF l + 2 := by
  have := linesL_length l
  rw [sectL_size]
  omega
theorem ref06_Put_l0 (l : List Fld) (hl : Small1 l) (hs : sumF l ≤ 1000000) : ∃ K, ∀ (d i k : Nat), i ≤ l.length → l.length - i = d → K + d < k → allRight (l.take i) = true →
    catchpitref06_Put.l0 k l ⟨(linesL (l.take i)).toArray⟩ (i : Int) = some (if allRight l = true then (sectL l, true) else (⟨#[]⟩, false)) := by
  obtain ⟨K, hK⟩ := ev_all (fun k (x : Fld) => catchpitref05_Right.f k x.f0 x.f1) (fun x => rightB x.f0 x.f1) l (fun x hx => ref05_Right x.f0 x.f1 (by have := hl x hx; omega) (by have := hl x hx; omega))
  have hn := sumF_length l
  refine ⟨K, fun d => ?_⟩
  induction d with
  | zero =>
    intro i k h1 h2 h3 h4
    obtain ⟨k, rfl⟩ : ∃ m, k = m + 1 := ⟨k - 1, by omega⟩
    rw [List.take_of_length_le (by omega)] at h4 ⊢
    have hz : (⟨(linesL l).toArray⟩ : ByteArray).size = (linesL l).length := rfl
    have := linesL_length l
    rw [catchpitref06_Put.l0, if_neg (by omega), if_pos (by omega), if_pos h4]
    congr 2
  | succ d ih =>
    intro i k h1 h2 h3 h4
    obtain ⟨k, rfl⟩ : ∃ m, k = m + 1 := ⟨k - 1, by omega⟩
    have hi : i < l.length := by omega
    have hm := mem_getD l z68 i hi
    have hr := hK k (by omega) _ hm
    have hx := hl _ hm
    have hsx := sumF_at l _ hm
    have hst := allRight_step l i hi
    have hlt := linesL_length (l.take i)
    have hst2 := sumF_take l i
    have hT : linesL (l.take (i + 1)) = linesL (l.take i) ++ ((putS (l.getD i z68).f0 (l.getD i z68).f1).data.toList ++ [13, 10]) := by
      rw [take_one l z68 i hi, linesL_append, linesL, linesL, List.append_nil]
    have hps := putS_size (l.getD i z68).f0 (l.getD i z68).f1
    rw [catchpitref06_Put.l0, if_pos (by omega), if_pos (by omega), rd_nat, hr, Option.bind_some]
    cases hrb : rightB (l.getD i z68).f0 (l.getD i z68).f1 with
    | true =>
      have hz : (⟨(linesL (l.take i)).toArray⟩ : ByteArray).size = (linesL (l.take i)).length := rfl
      rw [if_pos rfl, ref05_Put _ _ hx.1 hx.2, Option.bind_some, if_pos (by omega), if_pos (by rw [ByteArray.size_append]; omega), show wrap64 ((i : Int) + 1) = ((i + 1 : Nat) : Int) by unfold wrap64; omega]
      have := ih (i + 1) k (by omega) (by omega) (by omega) (by rw [hst, h4, hrb]; rfl)
      rw [hT] at this
      rw [← this]
      congr 1
      apply bytes_ext
      rw [data_append, data_append]
      simp
    | false =>
      rw [if_neg (by decide), allRight_not l _ hm hrb, if_neg (by decide)]
theorem ref06_Put (l : List Fld) (hl : Small1 l) (hs : sumF l ≤ 1000000) : Ev (fun k => catchpitref06_Put.f k l) (if allRight l = true then (sectL l, true) else (⟨#[]⟩, false)) := by
  obtain ⟨K, hK⟩ := ref06_Put_l0 l hl hs
  exact ⟨K + l.length + 1, fun k hk => hK l.length 0 k (Nat.zero_le _) (by omega) (by omega) rfl⟩
end Go.Proofs.YtakbnoelbmgmhaaDoorH
end
section
namespace Go.Proofs.YtakbnoelbmgmhaaDoorH
open Go
variable {H : Type} {enc : TypeId × Value → H}
theorem returns_and_shaped {a : Assume} {C : Checked} {os : Os} {f : FuncId} {fn : Func} {s : ChangeSpec} {conds : List PathCond} {apart fresh handsOn again : Bool} {X : World → Array Value → Prop}
    (hX : ∀ (w w' : World) (args : Array Value), w.heap = w'.heap → X w args → X w' args)
    (own : ownKnob C.prog.godebug = none) (started : os.Started) (noInit : C.prog.inits.idxOf? f = none) (hfn : C.prog.funcs[f]? = some fn)
    (witness : ∃ (w : World) (tape : Tape) (i : Input), w.os = os ∧ (w.forCall tape i).Shaped C.prog ∧ i.vars = [] ∧ Input.okWide C.prog (w.forCall tape i) .any w.heap.size f i ∧
      ((s.pre enc C.prog fn conds apart (w.forCall tape i).memory i.args ∧ X (w.forCall tape i).memory i.args) ∧ sizedMet enc C.prog fn (OpenSpec.ofChange s) apart (w.forCall tape i).memory i.args) ∧ a.holds C.prog (lone (Frame.enter C.prog f i.args .normal) [] (w.forCall tape i)))
    (contract : ∀ (W : World) (base : Nat) (args : Array Value) (ds gs : List (DataW H)) (before : List MemPlace),
      (∀ (j : Nat) t v, fn.params[j]? = some t → args[j]? = some v → Value.okWide C.prog W .any base t v) →
      DataW.Whole enc C.prog fn.params.toList s.vars apart W args.toList ds gs before →
      conds.all (PathCond.test C.prog ⟨fn.params.toList, ds, s.plain.varTypes C.prog, gs⟩) = true →
      (DataW.weightsEach C.prog (fn.params.toList ++ s.plain.varTypes C.prog) (ds ++ gs)).all (· ≤ reachBytes) = true → X W args →
      W.ShapedOpen C.prog →
      a.holds C.prog (lone (Frame.enter C.prog f args .normal) [] W) →
      Calls C.prog f args W fun e W' => ∃ v, e = .returned v ∧ s.post enc C.prog fn apart fresh handsOn again W args v W') :
    ReturnsInHanded a C os f .any (fun w args => (s.pre enc C.prog fn conds apart w args ∧ X w args) ∧ sizedMet enc C.prog fn (OpenSpec.ofChange s) apart w args) (s.post enc C.prog fn apart fresh handsOn again) := by
  refine returnsInHanded_of_calls own started noInit witness ?_
  intro w tape i _ hsh _ hok hpre hholds
  obtain ⟨_, _, _, fn', hfn', _, _, _, _, hval⟩ := hok
  have e : fn' = fn := Option.some.inj (hfn'.symm.trans hfn)
  subst e
  obtain ⟨⟨⟨ds, gs, before, hw, hc⟩, hx⟩, hz⟩ := hpre
  have hw' := DataW.Whole.of_heap (w' := w.forCall tape i) (by rfl) hw
  refine (contract (w.forCall tape i) w.heap.size i.args ds gs before hval hw' hc (hz.weights hw) (hX _ _ _ (by rfl) hx) hsh hholds).mono fun e W' ⟨v, he, hp⟩ => ?_
  subst he
  exact ChangeSpec.post_blind hp
end Go.Proofs.YtakbnoelbmgmhaaDoorH
end
section
namespace Go.Proofs.YtakbnoelbmgmhaaDoor.Pr
open Go.RowKit Go.Proofs.YtakbnoelbmgmhaaDoorH Go.Proofs.YtakbnoelbmgmhaaDoorW.PrintWords Go.Proofs.YtakbnoelbmgmhaaDoorW.PrintLast Go.Proofs.YtakbnoelbmgmhaaDoorW.PrintMore
attribute [local go_sem] max2_int min2_int max_two min_two max_three min_three max_four min_four   -- for this text's walks alone
set_option linter.unusedVariables false
set_option linter.unusedSimpArgs false
def catchpitref01_Put.f : Nat → Int → Option (ByteArray)
  | 0, _ => none
  | k + 1, a0 => if a0 < 16 then (if 0 ≤ (wrap64 (Int.tmod a0 16)) then (if (wrap64 (Int.tmod a0 16)) ≤ (wrap64 ((wrap64 (Int.tmod a0 16)) + 1)) then (if (wrap64 ((wrap64 (Int.tmod a0 16)) + 1)) ≤ 16 then (some ((⟨#[48, 49, 50, 51, 52, 53, 54, 55, 56, 57, 97, 98, 99, 100, 101, 102]⟩ : ByteArray).extract ((wrap64 (Int.tmod a0 16)) : Int).toNat ((wrap64 ((wrap64 (Int.tmod a0 16)) + 1)) : Int).toNat)) else (none)) else (none)) else (none)) else ((catchpitref01_Put.f k (IntKind.u64.wrap (Int.tdiv a0 16))).bind fun t132 => (if 0 ≤ (wrap64 (Int.tmod a0 16)) then (if (wrap64 (Int.tmod a0 16)) ≤ (wrap64 ((wrap64 (Int.tmod a0 16)) + 1)) then (if (wrap64 ((wrap64 (Int.tmod a0 16)) + 1)) ≤ 16 then (if t132.size + ((⟨#[48, 49, 50, 51, 52, 53, 54, 55, 56, 57, 97, 98, 99, 100, 101, 102]⟩ : ByteArray).extract ((wrap64 (Int.tmod a0 16)) : Int).toNat ((wrap64 ((wrap64 (Int.tmod a0 16)) + 1)) : Int).toNat).size ≤ 9223372036854775807 then (some (t132 ++ ((⟨#[48, 49, 50, 51, 52, 53, 54, 55, 56, 57, 97, 98, 99, 100, 101, 102]⟩ : ByteArray).extract ((wrap64 (Int.tmod a0 16)) : Int).toNat ((wrap64 ((wrap64 (Int.tmod a0 16)) + 1)) : Int).toNat))) else (none)) else (none)) else (none)) else (none)))
theorem catchpitref01_Put.mono_l : ∀ k, (∀ y0, LeO (catchpitref01_Put.f k y0) (catchpitref01_Put.f (k + 1) y0))
  | 0 => fun _ r h => by simp [catchpitref01_Put.f] at h
  | k + 1 => by
    have ih0 := catchpitref01_Put.mono_l k
    · intro y0
      unfold catchpitref01_Put.f
      repeat' first
      | (with_reducible exact ih0 _)
      | (with_reducible exact LeO.refl _)
      | (with_reducible exact LeO.none _)
      | (with_reducible refine LeO.ite ?_ ?_)
      | (with_reducible refine LeO.bind ?_ (fun _ => ?_))
      | exact ih0 _
      | exact LeO.none _
      | refine LeO.ite ?_ ?_
      | refine LeO.bind ?_ (fun _ => ?_)
theorem catchpitref01_Put.mono : ∀ a0 k, LeO (catchpitref01_Put.f k a0) (catchpitref01_Put.f (k + 1) a0) := by
  intro a0 k
  have ih0 := catchpitref01_Put.mono_l k
  exact ih0 a0
def catchpitref01_Put.T5 : Bool × List (List Nat × List Nat) := (true, [([], []), ([0], [0]), ([1], [1]), ([], []), ([], []), ([], []), ([5], [5]), ([3, 4, 6], [3, 4, 6]), ([2, 7], [2, 7]), ([8, 2, 0, 1, 2, 3, 4, 5, 6, 7, 8], [8])])
def catchpitref01_Put.B5 : List Nat := [0, 1, 3, 0, 0, 0, 32, 120, 255, 511]
theorem catchpitref01_Put.tab5 : rtab .any (opsOf Tryd.f33 5) = catchpitref01_Put.T5 := by kernel_rfl
theorem catchpitref01_Put.bits5 : waitsOk catchpitref01_Put.T5.2 catchpitref01_Put.B5 = true := by kernel_rfl
set_option maxHeartbeats 8000000 in
set_option maxRecDepth 100000 in
theorem catchpitref01_Put.calls (k : Nat) : ∀ (a0 : Int) (r : ByteArray) (w : World) (hG : TabOk w) (h : catchpitref01_Put.f k a0 = some r),
    Calls Tryd.prog 33 #[.int .u64 a0] w fun e w' => e = .returned (.string r) ∧ Below w.heap.size w w' := by
  induction k using Nat.strongRecOn with
  | _ k ih =>
  intro a0 r w hG h
  cases k with
  | zero => exact absurd h (by simp [catchpitref01_Put.f])
  | succ k =>
  simp only [catchpitref01_Put.f] at h
  have HB := Aside0.mk (Below.refl w.heap.size w)
  have H : (if a0 < 16 then (if 0 ≤ (wrap64 (Int.tmod a0 16)) then (if (wrap64 (Int.tmod a0 16)) ≤ (wrap64 ((wrap64 (Int.tmod a0 16)) + 1)) then (if (wrap64 ((wrap64 (Int.tmod a0 16)) + 1)) ≤ 16 then (some ((⟨#[48, 49, 50, 51, 52, 53, 54, 55, 56, 57, 97, 98, 99, 100, 101, 102]⟩ : ByteArray).extract ((wrap64 (Int.tmod a0 16)) : Int).toNat ((wrap64 ((wrap64 (Int.tmod a0 16)) + 1)) : Int).toNat)) else (none)) else (none)) else (none)) else ((catchpitref01_Put.f k (IntKind.u64.wrap (Int.tdiv a0 16))).bind fun t132 => (if 0 ≤ (wrap64 (Int.tmod a0 16)) then (if (wrap64 (Int.tmod a0 16)) ≤ (wrap64 ((wrap64 (Int.tmod a0 16)) + 1)) then (if (wrap64 ((wrap64 (Int.tmod a0 16)) + 1)) ≤ 16 then (if t132.size + ((⟨#[48, 49, 50, 51, 52, 53, 54, 55, 56, 57, 97, 98, 99, 100, 101, 102]⟩ : ByteArray).extract ((wrap64 (Int.tmod a0 16)) : Int).toNat ((wrap64 ((wrap64 (Int.tmod a0 16)) + 1)) : Int).toNat).size ≤ 9223372036854775807 then (some (t132 ++ ((⟨#[48, 49, 50, 51, 52, 53, 54, 55, 56, 57, 97, 98, 99, 100, 101, 102]⟩ : ByteArray).extract ((wrap64 (Int.tmod a0 16)) : Int).toNat ((wrap64 ((wrap64 (Int.tmod a0 16)) + 1)) : Int).toNat))) else (none)) else (none)) else (none)) else (none)))) = some r := h
  clear h
  by_cases c2 : a0 < 16
  · rw [if_pos c2] at H
    have c2b0 : decide (a0 < 16) = true := decide_eq_true c2
    clear c2
    obtain ⟨ji3, hji3⟩ : ∃ j_ : Int, (wrap64 (Int.tmod a0 16)) = j_ := ⟨_, rfl⟩
    replace H : (if 0 ≤ (ji3) then (if (ji3) ≤ (wrap64 ((ji3) + 1)) then (if (wrap64 ((ji3) + 1)) ≤ 16 then (some ((⟨#[48, 49, 50, 51, 52, 53, 54, 55, 56, 57, 97, 98, 99, 100, 101, 102]⟩ : ByteArray).extract ((ji3) : Int).toNat ((wrap64 ((ji3) + 1)) : Int).toNat)) else (none)) else (none)) else (none)) = some r := by first | (rw [hji3] at H; exact H) | (simp only [hji3] at H ⊢; exact H)
    have hji3w : (IntKind.i64.wrap (Int.tmod a0 16)) = ji3 := (i64_w _).trans hji3
    by_cases c4 : 0 ≤ (ji3)
    · rw [if_pos c4] at H
      have c4b0 := eq_true c4
      have c4b1 : decide (0 ≤ (ji3)) = true := decide_eq_true c4
      clear c4
      by_cases c5 : (ji3) ≤ (wrap64 ((ji3) + 1))
      · rw [if_pos c5] at H
        have c5b0 := eq_true c5
        have c5b1 : decide ((ji3) ≤ (wrap64 ((ji3) + 1))) = true := decide_eq_true c5
        by_cases c6 : (wrap64 ((ji3) + 1)) ≤ 16
        · rw [if_pos c6] at H
          have c6b0 := eq_true c6
          have c6b1 : decide ((wrap64 ((ji3) + 1)) ≤ 16) = true := decide_eq_true c6
          obtain rfl := Option.some.inj H
          go_enter Tryd.func33, Tryd.ntmps33
          go_wp2
          go_ret
          exact ⟨by first | rfl | (simp [errW_none, errW_some] <;> rfl) | (simp only [← hji3]; first | rfl | (simp [errW_none, errW_some] <;> rfl)) | (simp [*, errW_none, errW_some] <;> rfl), by repeat (first | (with_reducible first | exact HB.out | apply below_alloc | apply pw_below_drewN | apply below_drew1) | exact HB.out)⟩
        · rw [if_neg c6] at H
          exact absurd H (by simp)
      · rw [if_neg c5] at H
        exact absurd H (by simp)
    · rw [if_neg c4] at H
      exact absurd H (by simp)
  · rw [if_neg c2] at H
    have c2b0 : decide (a0 < 16) = false := decide_eq_false c2
    clear c2
    replace H := Option.bind_eq_some_iff.mp H
    obtain ⟨t132, A70, H⟩ := H
    replace H : (if 0 ≤ (wrap64 (Int.tmod a0 16)) then (if (wrap64 (Int.tmod a0 16)) ≤ (wrap64 ((wrap64 (Int.tmod a0 16)) + 1)) then (if (wrap64 ((wrap64 (Int.tmod a0 16)) + 1)) ≤ 16 then (if t132.size + ((⟨#[48, 49, 50, 51, 52, 53, 54, 55, 56, 57, 97, 98, 99, 100, 101, 102]⟩ : ByteArray).extract ((wrap64 (Int.tmod a0 16)) : Int).toNat ((wrap64 ((wrap64 (Int.tmod a0 16)) + 1)) : Int).toNat).size ≤ 9223372036854775807 then (some (t132 ++ ((⟨#[48, 49, 50, 51, 52, 53, 54, 55, 56, 57, 97, 98, 99, 100, 101, 102]⟩ : ByteArray).extract ((wrap64 (Int.tmod a0 16)) : Int).toNat ((wrap64 ((wrap64 (Int.tmod a0 16)) + 1)) : Int).toNat))) else (none)) else (none)) else (none)) else (none)) = some r := H
    have A7 := Aside0.mk A70
    clear A70
    obtain ⟨ji8, hji8⟩ : ∃ j_ : Int, (wrap64 (Int.tmod a0 16)) = j_ := ⟨_, rfl⟩
    replace H : (if 0 ≤ (ji8) then (if (ji8) ≤ (wrap64 ((ji8) + 1)) then (if (wrap64 ((ji8) + 1)) ≤ 16 then (if t132.size + ((⟨#[48, 49, 50, 51, 52, 53, 54, 55, 56, 57, 97, 98, 99, 100, 101, 102]⟩ : ByteArray).extract ((ji8) : Int).toNat ((wrap64 ((ji8) + 1)) : Int).toNat).size ≤ 9223372036854775807 then (some (t132 ++ ((⟨#[48, 49, 50, 51, 52, 53, 54, 55, 56, 57, 97, 98, 99, 100, 101, 102]⟩ : ByteArray).extract ((ji8) : Int).toNat ((wrap64 ((ji8) + 1)) : Int).toNat))) else (none)) else (none)) else (none)) else (none)) = some r := by first | (rw [hji8] at H; exact H) | (simp only [hji8] at H ⊢; exact H)
    (try rw [hji8] at A7)
    have hji8w : (IntKind.i64.wrap (Int.tmod a0 16)) = ji8 := (i64_w _).trans hji8
    by_cases c9 : 0 ≤ (ji8)
    · rw [if_pos c9] at H
      have c9b0 := eq_true c9
      have c9b1 : decide (0 ≤ (ji8)) = true := decide_eq_true c9
      clear c9
      by_cases c10 : (ji8) ≤ (wrap64 ((ji8) + 1))
      · rw [if_pos c10] at H
        have c10b0 := eq_true c10
        have c10b1 : decide ((ji8) ≤ (wrap64 ((ji8) + 1))) = true := decide_eq_true c10
        by_cases c11 : (wrap64 ((ji8) + 1)) ≤ 16
        · rw [if_pos c11] at H
          have c11b0 := eq_true c11
          have c11b1 : decide ((wrap64 ((ji8) + 1)) ≤ 16) = true := decide_eq_true c11
          by_cases c12 : t132.size + ((⟨#[48, 49, 50, 51, 52, 53, 54, 55, 56, 57, 97, 98, 99, 100, 101, 102]⟩ : ByteArray).extract ((ji8) : Int).toNat ((wrap64 ((ji8) + 1)) : Int).toNat).size ≤ 9223372036854775807
          · rw [if_pos c12] at H
            have c12b0 := eq_true c12
            try simp only [ByteArray.size_append, ByteArray.size_extract, Nat.min_self] at c12b0
            have c12b1 : decide (t132.size + ((⟨#[48, 49, 50, 51, 52, 53, 54, 55, 56, 57, 97, 98, 99, 100, 101, 102]⟩ : ByteArray).extract ((ji8) : Int).toNat ((wrap64 ((ji8) + 1)) : Int).toNat).size ≤ 9223372036854775807) = true := decide_eq_true c12
            try simp only [ByteArray.size_append, ByteArray.size_extract, Nat.min_self] at c12b1
            try have c12b2 : (9223372036854775807 < t132.size + ((⟨#[48, 49, 50, 51, 52, 53, 54, 55, 56, 57, 97, 98, 99, 100, 101, 102]⟩ : ByteArray).extract ((ji8) : Int).toNat ((wrap64 ((ji8) + 1)) : Int).toNat).size) = False := eq_false (Nat.not_lt.2 c12)
            try simp only [ByteArray.size_append, ByteArray.size_extract, Nat.min_self] at c12b2
            have c12b3 : (9223372036854775807 < t132.size + ((wrap64 (ji8 + 1)).toNat - ji8.toNat)) = False := by
              refine eq_false ?_
              have hq := c12
              rw [ByteArray.size_extract, show (⟨#[48, 49, 50, 51, 52, 53, 54, 55, 56, 57, 97, 98, 99, 100, 101, 102]⟩ : ByteArray).size = 16 from rfl] at hq
              omega
            obtain rfl := Option.some.inj H
            go_enter Tryd.func33, Tryd.ntmps33
            try go_wp2
            have n0_ := Aside0.mk (below_drew1 HB.out)
            clear HB
            have HB := n0_
            clear n0_
            refine start_ (n := 10) (S := fun w' => True) (ds := []) #[false, false, false, false, false, false, false, false, false, false] (by kernel_rfl) rfl rfl trivial (fun hHeld => ?_); refine with_tabW catchpitref01_Put.tab5 catchpitref01_Put.bits5 (fun HT_ HW_ => ?_)
            generalize w.drew = w13 at HB hHeld ⊢
            refine pure_ (i := 0) (N := some 15) (v := ?_) (a' := ?_) #[true, false, false, false, false, false, false, false, false, false] rfl rfl (any_of HT_.out (by kernel_rfl)) (fun _ _ _ h => h) (Or.inl ⟨by rfl, ?_⟩) ?_ ?_
            rotate_left
            · intro w'
              go_simp
              with_reducible rfl
            rotate_left
            · simp only [Act.put, List.setIfInBounds_toArray, List.set_cons_zero, List.set_cons_succ, i64_w, i32_w]
              rfl
            refine pure_ (i := 1) (N := some 16) (v := ?_) (a' := ?_) #[true, true, false, false, false, false, false, false, false, false] rfl rfl (any_of HT_.out (by kernel_rfl)) (fun _ _ _ h => h) (Or.inl ⟨by rfl, ?_⟩) ?_ ?_
            rotate_left
            · intro w'
              go_simp
              with_reducible rfl
            rotate_left
            · simp only [Act.put, List.setIfInBounds_toArray, List.set_cons_zero, List.set_cons_succ, i64_w, i32_w]
              rfl
            refine pure_ (i := 3) (N := some 18) (v := ?_) (a' := ?_) #[true, true, false, true, false, false, false, false, false, false] rfl rfl (any_of HT_.out (by kernel_rfl)) (fun _ _ _ h => h) (Or.inl ⟨by rfl, ?_⟩) ?_ ?_
            rotate_left
            · intro w'
              go_simp
              with_reducible rfl
            rotate_left
            · simp only [Act.put, List.setIfInBounds_toArray, List.set_cons_zero, List.set_cons_succ, i64_w, i32_w]
              rfl
            refine pure_ (i := 4) (N := some 19) (v := ?_) (a' := ?_) #[true, true, false, true, true, false, false, false, false, false] rfl rfl (any_of HT_.out (by kernel_rfl)) (fun _ _ _ h => h) (Or.inl ⟨by rfl, ?_⟩) ?_ ?_
            rotate_left
            · intro w'
              go_simp
              with_reducible rfl
            rotate_left
            · simp only [Act.put, List.setIfInBounds_toArray, List.set_cons_zero, List.set_cons_succ, i64_w, i32_w]
              rfl
            refine pure_ (i := 5) (N := some 20) (v := ?_) (a' := ?_) #[true, true, false, true, true, true, false, false, false, false] rfl rfl (any_of HT_.out (by kernel_rfl)) (fun _ _ _ h => h) (Or.inl ⟨by rfl, ?_⟩) ?_ ?_
            rotate_left
            · intro w'
              go_simp
              with_reducible rfl
            rotate_left
            · simp only [Act.put, List.setIfInBounds_toArray, List.set_cons_zero, List.set_cons_succ, i64_w, i32_w]
              rfl
            refine pure_ (i := 6) (N := some 21) (v := ?_) (a' := ?_) #[true, true, false, true, true, true, true, false, false, false] rfl rfl (any_of HT_.out (by kernel_rfl)) (fun _ _ _ h => h) (Or.inl ⟨by rfl, ?_⟩) ?_ ?_
            rotate_left
            · intro w'
              go_simp
              with_reducible rfl
            rotate_left
            · simp only [Act.put, List.setIfInBounds_toArray, List.set_cons_zero, List.set_cons_succ, i64_w, i32_w]
              rfl
            refine pure_ (i := 7) (N := some 22) (v := ?_) (a' := ?_) #[true, true, false, true, true, true, true, true, false, false] rfl rfl (any_of HT_.out (by kernel_rfl)) (fun _ _ _ h => h) (Or.inl ⟨by rfl, ?_⟩) ?_ ?_
            rotate_left
            · intro w'
              go_simp
              with_reducible rfl
            rotate_left
            · simp only [Act.put, List.setIfInBounds_toArray, List.set_cons_zero, List.set_cons_succ, i64_w, i32_w]
              rfl
            refine one_ (i := 2) (N := some 17) #[true, true, true, true, true, true, true, true, false, false] rfl rfl (one_of HT_.out (by kernel_rfl)) (by decide) (fun K hK => ?_)
            refine goes_ Tryd.func33 (by kernel_rfl) rfl #[.int .u64 (IntKind.u64.wrap (Int.tdiv a0 16))] (by rfl) rfl rfl (by (try simp only [List.map_toArray, List.map_cons, List.map_nil]); first | done | rfl | (simp only [List.length_drop, List.length_take]; rfl)) ?_
            with_reducible refine (ih k (by omega) (IntKind.u64.wrap (Int.tdiv a0 16)) t132 _ ?side1 A7.out).mono ?_
            (case side1 => first | exact hG | exact TabOk.drewN hG _ | exact TabOk.drewN (TabOk.drewN hG _) _ | exact TabOk.below hG (by repeat (first | (with_reducible first | exact HB.out | apply below_alloc | apply pw_below_drewN | apply below_drew1) | exact HB.out)))
            rintro e w14 ⟨rfl, hb⟩
            refine ⟨_, rfl, ?_⟩
            have n0_ := Aside0.mk (below_step (by repeat (first | (with_reducible first | exact HB.out | apply below_alloc | apply pw_below_drewN | apply below_drew1) | exact HB.out)) hb)
            clear HB
            have HB := n0_
            clear n0_
            (try clear hb)
            (try clear hb2)
            (try clear hk)
            (try clear hi)
            refine hK.out _ _ trivial (fun hHeld => ?_)
            clear hK K
            refine norm_ (a' := ?_) ?_ ?_
            rotate_left
            · show Act.put _ (some 17) _ = _
              simp only [Act.put, List.setIfInBounds_toArray, List.set_cons_zero, List.set_cons_succ, i64_w, i32_w]
              rfl
            refine pure_ (i := 8) (N := some 23) (v := ?_) (a' := ?_) #[true, true, true, true, true, true, true, true, true, false] rfl rfl (any_of HT_.out (by kernel_rfl)) (fun _ _ _ h => h) (Or.inl ⟨by rfl, ?_⟩) ?_ ?_
            rotate_left
            · intro w'
              go_simp
              with_reducible rfl
            rotate_left
            · simp only [Act.put, List.setIfInBounds_toArray, List.set_cons_zero, List.set_cons_succ, i64_w, i32_w]
              rfl
            refine pure_ (i := 9) (N := some 2) (v := ?_) (a' := ?_) #[true, true, true, true, true, true, true, true, true, true] rfl rfl (any_of HT_.out (by kernel_rfl)) (fun _ _ _ h => h) (Or.inl ⟨by rfl, ?_⟩) ?_ ?_
            rotate_left
            · intro w'
              go_simp
              with_reducible rfl
            rotate_left
            · simp only [Act.put, List.setIfInBounds_toArray, List.set_cons_zero, List.set_cons_succ, i64_w, i32_w]
              rfl
            refine done_ (done_of HT_.out (by kernel_rfl)) ?_
            try go_wp2
            go_ret
            exact ⟨by first | rfl | (simp [errW_none, errW_some] <;> rfl) | (simp only [← hji8]; first | rfl | (simp [errW_none, errW_some] <;> rfl)) | (simp [*, errW_none, errW_some] <;> rfl), by repeat (first | (with_reducible first | exact HB.out | apply below_alloc | apply pw_below_drewN | apply below_drew1) | exact HB.out)⟩
          · rw [if_neg c12] at H
            exact absurd H (by simp)
        · rw [if_neg c11] at H
          exact absurd H (by simp)
      · rw [if_neg c10] at H
        exact absurd H (by simp)
    · rw [if_neg c9] at H
      exact absurd H (by simp)
end Go.Proofs.YtakbnoelbmgmhaaDoor.Pr
end
section
namespace Go.Proofs.YtakbnoelbmgmhaaDoorH
open Go.RowKit Go.Proofs.YtakbnoelbmgmhaaDoorW.PrintWords Go.Proofs.YtakbnoelbmgmhaaDoorW.PrintLast Go.Proofs.YtakbnoelbmgmhaaDoorW.PrintMore Go.Proofs.YtakbnoelbmgmhaaDoor.Pr
theorem row_of_bytes (W : World) (s : ByteArray) (hs : s.size ≤ 9223372036854775807) : RowB (Lib.bytesWorld W 5 s) (.slice (some ⟨W.heap.size, 0, none⟩) s.size (grownCap W s.size 0 5)) (bytesOf s) := by
  have h := bytes_reads W 5 s hs
  refine ⟨some ⟨W.heap.size, 0, none⟩, grownCap W s.size 0 5, by rw [bytesOf_length], by rw [bytesOf_length]; exact grownCap_ge W s.size 0 _, ?_⟩
  rw [← bytesOf_length s] at h
  exact Kd.C_of_reads (d := (0 : Int)) h
def lastS (l : List Fld) : ByteArray := ⟨#[48, 13, 10]⟩ ++ sectL l
def lastL (l : List Fld) : List Int := bytesOf (lastS l)
theorem sectL_small (l : List Fld) (hs : sumF l ≤ 1000000) : (lastS l).size ≤ 4000100 := by
  have h := sectL_le l
  unfold lastS
  rw [ByteArray.size_append]
  have : (⟨#[48, 13, 10]⟩ : ByteArray).size = 3 := rfl
  omega
set_option maxHeartbeats 1600000 in
set_option maxRecDepth 100000 in
theorem last_calls (A : Option Addr) (c : Nat) (l : List Fld) (w : World) (hr : Kd.C k68 w A l.length l) (hc : l.length ≤ c) (hG : TabOk w) (hl : Small1 l) (hs : sumF l ≤ 1000000) :
    Calls Tryd.prog 11 #[.slice A l.length c] w fun e w' => ∃ v, e = .returned (.tuple #[v, .int .i64 (if allRight l = true then 0 else 1)]) ∧ RowB w' v (if allRight l = true then lastL l else []) ∧ Below w.heap.size w w' := by
  have hp := block_Put.calls A c l (putR l).1 (putR l).2 w hr hc hG (block_Put_eq l hl hs)
  have hz := sectL_small l hs
  unfold putR at hp
  cases hb : allRight l with
  | true =>
    rw [hb] at hp
    have hp : Calls Tryd.prog 30 #[.slice A l.length c] w fun e w' => e = .returned (.tuple #[.string (sectL l), .int .i64 0]) ∧ Below w.heap.size w w' := hp
    have kb := fun W => print_bytes (P := Tryd.prog) 9 25 5 Tryd.underlying9 Tryd.underlying25 Tryd.underlying5 (lastS l) W
    have HRB := Aside0.mk (fun W => row_of_bytes W (lastS l) (by omega))
    have hz2 : (⟨#[48, 13, 10]⟩ : ByteArray).size + (sectL l).size ≤ 9223372036854775807 := by
      unfold lastS at hz
      rw [ByteArray.size_append] at hz
      omega
    have HL := Aside0.mk (show lastL l = bytesOf (lastS l) from rfl)
    have hlast : (⟨#[48, 13, 10]⟩ : ByteArray) ++ sectL l = lastS l := rfl
    rw [if_pos rfl, if_pos rfl, HL.out]
    clear hr hG hz
    generalize lastS l = t at *
    generalize sectL l = s at *
    go_enter Tryd.func11, Tryd.ntmps11
    go_wp2_with fail
    refine hp.mono ?_
    rintro e w1 ⟨rfl, b1⟩
    have B1 := Aside0.mk b1
    clear hp b1
    go_wp2
    go_ret2
    exact ⟨_, rfl, HRB.out w1, bytes_below B1.out B1.out.size 5 t⟩
  | false =>
    rw [hb] at hp
    have hp : Calls Tryd.prog 30 #[.slice A l.length c] w fun e w' => e = .returned (.tuple #[.string ⟨#[]⟩, .int .i64 1]) ∧ Below w.heap.size w w' := hp
    rw [if_neg (by decide), if_neg (by decide)]
    clear hr hG hz
    go_enter Tryd.func11, Tryd.ntmps11
    go_wp2_with fail
    refine hp.mono ?_
    rintro e w1 ⟨rfl, b1⟩
    clear hp
    go_wp2
    go_ret2
    exact ⟨_, rfl, RowB.nil _, b1⟩
set_option maxHeartbeats 1600000 in
set_option maxRecDepth 100000 in
theorem refLast_calls (A : Option Addr) (c : Nat) (l : List Fld) (w : World) (hr : Kd.C k68 w A l.length l) (hc : l.length ≤ c) (hG : TabOk w) (hl : Small1 l) (hs : sumF l ≤ 1000000) :
    Calls Tryd.prog 12 #[.slice A l.length c] w fun e w' => ∃ v, e = .returned (.tuple #[v, .bool (allRight l)]) ∧ RowB w' v (if allRight l = true then lastL l else []) ∧ Below w.heap.size w w' := by
  obtain ⟨K, hK⟩ := ref06_Put l hl hs
  have hp := catchpitref06_Put.calls K A c l (if allRight l = true then (sectL l, true) else (⟨#[]⟩, false)).1 (if allRight l = true then (sectL l, true) else (⟨#[]⟩, false)).2 w hr hc hG (hK K (Nat.le_refl _))
  have hz := sectL_small l hs
  cases hb : allRight l with
  | true =>
    rw [hb] at hp
    have hp : Calls Tryd.prog 31 #[.slice A l.length c] w fun e w' => e = .returned (.tuple #[.string (sectL l), .bool true]) ∧ Below w.heap.size w w' := hp
    have kb := fun W => print_bytes (P := Tryd.prog) 9 25 5 Tryd.underlying9 Tryd.underlying25 Tryd.underlying5 (lastS l) W
    have HRB := Aside0.mk (fun W => row_of_bytes W (lastS l) (by omega))
    have hz2 : (⟨#[48, 13, 10]⟩ : ByteArray).size + (sectL l).size ≤ 9223372036854775807 := by
      unfold lastS at hz
      rw [ByteArray.size_append] at hz
      omega
    have HL := Aside0.mk (show lastL l = bytesOf (lastS l) from rfl)
    have hlast : (⟨#[48, 13, 10]⟩ : ByteArray) ++ sectL l = lastS l := rfl
    rw [if_pos rfl, HL.out]
    clear hr hG hz
    generalize lastS l = t at *
    generalize sectL l = s at *
    go_enter Tryd.func12, Tryd.ntmps12
    go_wp2_with fail
    refine hp.mono ?_
    rintro e w1 ⟨rfl, b1⟩
    have B1 := Aside0.mk b1
    clear hp b1
    go_wp2
    go_ret2
    exact ⟨_, rfl, HRB.out w1, bytes_below B1.out B1.out.size 5 t⟩
  | false =>
    rw [hb] at hp
    have hp : Calls Tryd.prog 31 #[.slice A l.length c] w fun e w' => e = .returned (.tuple #[.string ⟨#[]⟩, .bool false]) ∧ Below w.heap.size w w' := hp
    rw [if_neg (by decide)]
    clear hr hG hz
    go_enter Tryd.func12, Tryd.ntmps12
    go_wp2_with fail
    refine hp.mono ?_
    rintro e w1 ⟨rfl, b1⟩
    clear hp
    go_wp2
    go_ret2
    exact ⟨_, rfl, RowB.nil _, b1⟩
abbrev digs16 : ByteArray := ⟨#[48, 49, 50, 51, 52, 53, 54, 55, 56, 57, 97, 98, 99, 100, 101, 102]⟩
theorem dig_one (d : Nat) (h : d < 16) : digs16.extract d (d + 1) = strOfNums [hexD d] := by
  have : d = 0 ∨ d = 1 ∨ d = 2 ∨ d = 3 ∨ d = 4 ∨ d = 5 ∨ d = 6 ∨ d = 7 ∨ d = 8 ∨ d = 9 ∨ d = 10 ∨ d = 11 ∨ d = 12 ∨ d = 13 ∨ d = 14 ∨ d = 15 := by omega
  rcases this with rfl | rfl | rfl | rfl | rfl | rfl | rfl | rfl | rfl | rfl | rfl | rfl | rfl | rfl | rfl | rfl <;> decide
theorem strOfNums_append (a b : List Int) : strOfNums (a ++ b) = strOfNums a ++ strOfNums b := by
  apply ByteArray.ext
  apply Array.toList_inj.1
  show _ = (strOfNums a).data.toList ++ (strOfNums b).data.toList
  rw [strOfNums_data, strOfNums_data, strOfNums_data, List.map_append]
theorem ref01_Put (n : Nat) (hn : n < 4611686018427387904) : ∀ k, (hexL n).length ≤ k → catchpitref01_Put.f k (n : Int) = some (hexS n) := by
  induction n using Nat.strongRecOn with
  | ind n ih =>
    intro k hk
    have hp := hexL_pos n
    obtain ⟨k, rfl⟩ : ∃ m, k = m + 1 := ⟨k - 1, by omega⟩
    have ht : Int.tmod (n : Int) 16 = ((n % 16 : Nat) : Int) := by rw [Int.tmod_eq_emod_of_nonneg (by omega)]; omega
    have hd : Int.tdiv (n : Int) 16 = ((n / 16 : Nat) : Int) := by rw [Int.tdiv_eq_ediv_of_nonneg (by omega)]; omega
    have hm : n % 16 < 16 := Nat.mod_lt _ (by decide)
    have hw0 : wrap64 ((n % 16 : Nat) : Int) = ((n % 16 : Nat) : Int) := by unfold wrap64; omega
    have hw1 : wrap64 (((n % 16 : Nat) : Int) + 1) = ((n % 16 + 1 : Nat) : Int) := by unfold wrap64; omega
    rw [catchpitref01_Put.f, ht, hd, hw0, hw1]
    have hdg := dig_one (n % 16) hm
    by_cases h : n < 16
    · rw [if_pos (by omega), if_pos (by omega), if_pos (by omega), if_pos (by omega), Int.toNat_natCast, Int.toNat_natCast, hdg]
      unfold hexS
      rw [hexL_lt h, Nat.mod_eq_of_lt h]
    · have hg := hexL_ge (show 16 ≤ n by omega)
      have hk2 : (hexL (n / 16)).length ≤ k := by
        rw [hg, List.length_append, List.length_singleton] at hk
        omega
      have hwu : IntKind.u64.wrap ((n / 16 : Nat) : Int) = ((n / 16 : Nat) : Int) := by
        rw [IntKind.wrap_u64]
        omega
      have h16 := hexL_le16 (n := n / 16) (by omega)
      rw [if_neg (by omega), hwu, ih (n / 16) (by omega) (by omega) k hk2, Option.bind_some, if_pos (by omega), if_pos (by omega), if_pos (by omega), Int.toNat_natCast, Int.toNat_natCast, hdg]
      rw [if_pos (by rw [hexS_size, strOfNums_size, List.length_singleton]; omega)]
      unfold hexS
      rw [hg, strOfNums_append]
end Go.Proofs.YtakbnoelbmgmhaaDoorH
end
section
namespace Go.Proofs.YtakbnoelbmgmhaaDoor.Pq
open Go.RowKit Go.Proofs.YtakbnoelbmgmhaaDoorH Go.Proofs.YtakbnoelbmgmhaaDoorW.PrintWords Go.Proofs.YtakbnoelbmgmhaaDoorW.PrintLast Go.Proofs.YtakbnoelbmgmhaaDoorW.PrintMore
attribute [local go_sem] max2_int min2_int max_two min_two max_three min_three max_four min_four   -- for this text's walks alone
set_option linter.unusedVariables false
set_option linter.unusedSimpArgs false
def errW : Option Int → Value
  | none => .nilIface
  | some c => .iface 0 (.int .i64 c)
theorem errW_none : errW none = .nilIface := rfl
theorem errW_some (c : Int) : errW (some c) = .iface 0 (.int .i64 c) := rfl
end Go.Proofs.YtakbnoelbmgmhaaDoor.Pq
end
section
namespace Go.Proofs.YtakbnoelbmgmhaaDoor.Pq
open Go.RowKit Go.Proofs.YtakbnoelbmgmhaaDoorH Go.Proofs.YtakbnoelbmgmhaaDoorW.PrintWords Go.Proofs.YtakbnoelbmgmhaaDoorW.PrintLast Go.Proofs.YtakbnoelbmgmhaaDoorW.PrintMore
attribute [local go_sem] max2_int min2_int max_two min_two max_three min_three max_four min_four   -- for this text's walks alone
set_option linter.unusedVariables false
set_option linter.unusedSimpArgs false
def catchpitref03_Same.l0 : Nat → List Int → List Int → Int → Option (Bool)
  | 0, _, _, _ => none
  | k + 1, x0, x1, x5 => if x5 < (x0.length : Int) then (if 0 ≤ x5 then (if x5 < (x1.length : Int) then (if (rd x0 x5) = (rd x1 x5) then (catchpitref03_Same.l0 k x0 x1 (wrap64 (x5 + 1))) else (some false)) else (none)) else (none)) else (some true)
def catchpitref03_Same.f (k : Nat) (l0 : List Int) (l1 : List Int) : Option (Bool) := if (l0.length : Int) = (l1.length : Int) then (catchpitref03_Same.l0 k l0 l1 0) else (some false)
theorem catchpitref03_Same.mono_l : ∀ k, (∀ y0 y1 y2, LeO (catchpitref03_Same.l0 k y0 y1 y2) (catchpitref03_Same.l0 (k + 1) y0 y1 y2))
  | 0 => fun _ _ _ r h => by simp [catchpitref03_Same.l0] at h
  | k + 1 => by
    have ih0 := catchpitref03_Same.mono_l k
    · intro y0 y1 y2
      unfold catchpitref03_Same.l0
      repeat' first
      | (with_reducible exact ih0 _ _ _)
      | (with_reducible exact LeO.refl _)
      | (with_reducible exact LeO.none _)
      | (with_reducible refine LeO.ite ?_ ?_)
      | (with_reducible refine LeO.bind ?_ (fun _ => ?_))
      | exact ih0 _ _ _
      | exact LeO.none _
      | refine LeO.ite ?_ ?_
      | refine LeO.bind ?_ (fun _ => ?_)
theorem catchpitref03_Same.mono : ∀ a0 a1 k, LeO (catchpitref03_Same.f k a0 a1) (catchpitref03_Same.f (k + 1) a0 a1) := by
  intro a0 a1 k
  have ih0 := catchpitref03_Same.mono_l k
  unfold catchpitref03_Same.f
  repeat' first
      | (with_reducible exact ih0 _ _ _)
      | (with_reducible exact LeO.refl _)
      | (with_reducible exact LeO.none _)
      | (with_reducible refine LeO.ite ?_ ?_)
      | (with_reducible refine LeO.bind ?_ (fun _ => ?_))
      | exact ih0 _ _ _
      | exact LeO.none _
      | refine LeO.ite ?_ ?_
      | refine LeO.bind ?_ (fun _ => ?_)
set_option maxHeartbeats 8000000 in
set_option maxRecDepth 100000 in
theorem catchpitref03_Same.calls (k : Nat) (A0 : Option Addr) (c0 : Nat) (l0 : List Int) (A1 : Option Addr) (c1 : Nat) (l1 : List Int) (r : Bool) (w : World) (hr0 : Kd.C (Kd.int .u8) w A0 l0.length l0) (hc0 : l0.length ≤ c0) (hr1 : Kd.C (Kd.int .u8) w A1 l1.length l1) (hc1 : l1.length ≤ c1) (h : catchpitref03_Same.f k l0 l1 = some r) :
    Calls Tryd.prog 14 #[.slice A0 l0.length c0, .slice A1 l1.length c1] w fun e w' => e = .returned (.bool r) ∧ Drawn0 w w' := by
  have HR0 := Aside0.mk hr0
  have HC0 := Aside0.mk hc0
  clear hr0 hc0
  have HR1 := Aside0.mk hr1
  have HC1 := Aside0.mk hc1
  clear hr1 hc1
  have H : (if (l0.length : Int) = (l1.length : Int) then (catchpitref03_Same.l0 k l0 l1 0) else (some false)) = some r := h
  clear h
  by_cases c3 : (l0.length : Int) = (l1.length : Int)
  · rw [if_pos c3] at H
    have c3b0 : ((l0.length : Int) == (l1.length : Int)) = true := beq_iff_eq.mpr c3
    have c3b1 : ((l0.length : Int) != (l1.length : Int)) = false := bne_eq_false_iff_eq.mpr c3
    have c3b2 : (l0.length == l1.length) = true := by first | simpa using c3 | (simp at c3 ⊢; omega)
    clear c3
    have H' := Aside0.mk H
    clear H
    go_enter Tryd.func14, Tryd.ntmps14
    go_wp2
    repeat (go_quiet (fail); try go_wp2)
    go_loopg [5] k (fun kq v5 w' => ∃ (x5_1 : Int), v5 = .int .i64 x5_1 ∧ Aside0 (catchpitref03_Same.l0 kq l0 l1 x5_1 = some r) ∧ Aside0 (kq ≤ k) ∧ Drawn0 w w')
    case atStart => exact ⟨(0), (by first | rfl | (simp; done) | (simp [*]; done)), H', ⟨Nat.le_refl _⟩, by repeat (first | exact Drawn0.refl _ | apply Drawn0.step)⟩
    case round =>
      clear H'
      try clear c1
      try clear p2
      try clear c3
      try clear c3b0
      try clear c3b1
      try clear c3b2
      obtain ⟨x5_1, rfl, HA, HK1, ⟨m1, rfl⟩⟩ := hrel
      cases gk with
      | zero => exact absurd HA.out (by simp [catchpitref03_Same.l0])
      | succ k1 =>
        have H := HA.out
        clear HA
        simp only [catchpitref03_Same.l0] at H
        by_cases c4 : x5_1 < (l0.length : Int)
        · rw [if_pos c4] at H
          have c4b0 : decide (x5_1 < (l0.length : Int)) = true := decide_eq_true c4
          clear c4
          by_cases c5 : 0 ≤ x5_1
          · rw [if_pos c5] at H
            have c5b0 : decide (0 ≤ x5_1) = true := decide_eq_true c5
            clear c5
            by_cases c6 : x5_1 < (l1.length : Int)
            · rw [if_pos c6] at H
              have c6b0 : decide (x5_1 < (l1.length : Int)) = true := decide_eq_true c6
              clear c6
              by_cases c7 : (rd l0 x5_1) = (rd l1 x5_1)
              · rw [if_pos c7] at H
                have c7b0 : ((rd l0 x5_1) == (rd l1 x5_1)) = true := beq_iff_eq.mpr c7
                have c7b1 : ((rd l0 x5_1) != (rd l1 x5_1)) = false := bne_eq_false_iff_eq.mpr c7
                clear c7
                have H' := Aside0.mk H
                clear H
                have p101 : 0 ≤ (x5_1 : Int) := of_decide_eq_true (by first | (with_reducible assumption) | assumption)
                have q101 : x5_1 < (l0.length : Int) := of_decide_eq_true (by first | (with_reducible assumption) | assumption)
                obtain ⟨ad101, e101, hx101_0⟩ := Kd.at_int HR0.out x5_1 p101 q101
                cases e101
                replace p101 := eq_true p101
                replace q101 := eq_true q101
                have p102 : 0 ≤ (x5_1 : Int) := of_decide_eq_true (by first | (with_reducible assumption) | assumption)
                have q102 : x5_1 < (l1.length : Int) := of_decide_eq_true (by first | (with_reducible assumption) | assumption)
                obtain ⟨ad102, e102, hx102_0⟩ := Kd.at_int HR1.out x5_1 p102 q102
                cases e102
                replace p102 := eq_true p102
                replace q102 := eq_true q102
                go_wp2
                repeat (go_quiet (fail); try go_wp2)
                go_roundg k1
                case measure => have := HK1.out; omega
                case rel => exact ⟨(wrap64 (x5_1 + 1)), (by first | rfl | (simp; done) | (simp [*]; done)), H', ⟨by have := HK1.out; omega⟩, by repeat (first | exact Drawn0.refl _ | apply Drawn0.step)⟩
              · rw [if_neg c7] at H
                have c7b0 : ((rd l0 x5_1) == (rd l1 x5_1)) = false := beq_eq_false_iff_ne.mpr c7
                have c7b1 : ((rd l0 x5_1) != (rd l1 x5_1)) = true := bne_iff_ne.mpr c7
                obtain rfl := Option.some.inj H
                have p101 : 0 ≤ (x5_1 : Int) := of_decide_eq_true (by first | (with_reducible assumption) | assumption)
                have q101 : x5_1 < (l0.length : Int) := of_decide_eq_true (by first | (with_reducible assumption) | assumption)
                obtain ⟨ad101, e101, hx101_0⟩ := Kd.at_int HR0.out x5_1 p101 q101
                cases e101
                replace p101 := eq_true p101
                replace q101 := eq_true q101
                have p102 : 0 ≤ (x5_1 : Int) := of_decide_eq_true (by first | (with_reducible assumption) | assumption)
                have q102 : x5_1 < (l1.length : Int) := of_decide_eq_true (by first | (with_reducible assumption) | assumption)
                obtain ⟨ad102, e102, hx102_0⟩ := Kd.at_int HR1.out x5_1 p102 q102
                cases e102
                replace p102 := eq_true p102
                replace q102 := eq_true q102
                go_wp2
                repeat (go_quiet (fail); try go_wp2)
                go_ret
                exact ⟨by first | rfl | (simp; done) | (simp [*]; done), by repeat (first | exact Drawn0.refl _ | apply Drawn0.step)⟩
            · rw [if_neg c6] at H
              exact absurd H (by simp)
          · rw [if_neg c5] at H
            exact absurd H (by simp)
        · rw [if_neg c4] at H
          have c4b0 : decide (x5_1 < (l0.length : Int)) = false := decide_eq_false c4
          clear c4
          obtain rfl := Option.some.inj H
          go_wp2
          repeat (go_quiet (fail); try go_wp2)
          go_ret
          exact ⟨by first | rfl | (simp; done) | (simp [*]; done), by repeat (first | exact Drawn0.refl _ | apply Drawn0.step)⟩
  · rw [if_neg c3] at H
    have c3b0 : ((l0.length : Int) == (l1.length : Int)) = false := beq_eq_false_iff_ne.mpr c3
    have c3b1 : ((l0.length : Int) != (l1.length : Int)) = true := bne_iff_ne.mpr c3
    have c3b2 : (l0.length == l1.length) = false := by first | simpa using c3 | (simp at c3 ⊢; omega)
    obtain rfl := Option.some.inj H
    go_enter Tryd.func14, Tryd.ntmps14
    go_wp2
    repeat (go_quiet (fail); try go_wp2)
    go_ret
    exact ⟨by first | rfl | (simp; done) | (simp [*]; done), by repeat (first | exact Drawn0.refl _ | apply Drawn0.step)⟩
end Go.Proofs.YtakbnoelbmgmhaaDoor.Pq
end
section
namespace Go.Proofs.YtakbnoelbmgmhaaDoorH
open Go.RowKit Go.Proofs.YtakbnoelbmgmhaaDoorW.PrintWords Go.Proofs.YtakbnoelbmgmhaaDoorW.PrintLast Go.Proofs.YtakbnoelbmgmhaaDoorW.PrintMore Go.Proofs.YtakbnoelbmgmhaaDoor.Pq
theorem rd_same (l : List Int) (i : Nat) : rd l (i : Int) = l.getD i 0 := by
  unfold rd
  rw [Int.toNat_natCast]
theorem Same_l0 (l0 l1 : List Int) (he : l0.length = l1.length) (hl : l0.length ≤ 1000000) : ∀ (d i k : Nat), l0.length - i = d → i ≤ l0.length → d < k → catchpitref03_Same.l0 k l0 l1 (i : Int) = some (decide (l0.drop i = l1.drop i))
  | 0, i, k, h1, h2, h3 => by
    obtain ⟨k, rfl⟩ : ∃ m, k = m + 1 := ⟨k - 1, by omega⟩
    rw [catchpitref03_Same.l0, if_neg (by omega), List.drop_eq_nil_of_le (by omega), List.drop_eq_nil_of_le (by omega)]
    rfl
  | d + 1, i, k, h1, h2, h3 => by
    obtain ⟨k, rfl⟩ : ∃ m, k = m + 1 := ⟨k - 1, by omega⟩
    have hw : wrap64 ((i : Int) + 1) = ((i + 1 : Nat) : Int) := by unfold wrap64; omega
    have e0 : l0.drop i = l0.getD i 0 :: l0.drop (i + 1) := by
      rw [List.getD_eq_getElem?_getD, List.getElem?_eq_getElem (by omega)]
      exact List.drop_eq_getElem_cons (by omega)
    have e1 : l1.drop i = l1.getD i 0 :: l1.drop (i + 1) := by
      rw [List.getD_eq_getElem?_getD, List.getElem?_eq_getElem (by omega)]
      exact List.drop_eq_getElem_cons (by omega)
    rw [catchpitref03_Same.l0, if_pos (by omega), if_pos (by omega), if_pos (by omega), rd_same, rd_same, hw, e0, e1]
    by_cases h : l0.getD i 0 = l1.getD i 0
    · rw [if_pos h, Same_l0 l0 l1 he hl d (i + 1) k (by omega) (by omega) (by omega), h]
      simp
    · rw [if_neg h, decide_eq_false (fun e => h (List.cons.inj e).1)]
theorem Same_eq (l0 l1 : List Int) (hl : l0.length ≤ 1000000) (k : Nat) (hk : l0.length < k) : catchpitref03_Same.f k l0 l1 = some (decide (l0 = l1)) := by
  unfold catchpitref03_Same.f
  by_cases he : l0.length = l1.length
  · rw [if_pos (by omega)]
    have := Same_l0 l0 l1 he hl l0.length 0 k (by omega) (by omega) hk
    rwa [List.drop_zero, List.drop_zero] at this
  · rw [if_neg (by omega), decide_eq_false (fun e => he (by rw [e]))]
theorem same_rows {w : World} {v0 v1 : Value} {l0 l1 : List Int} (h0 : RowB w v0 l0) (h1 : RowB w v1 l1) (hl : l0.length ≤ 1000000) :
    Calls Tryd.prog 14 #[v0, v1] w fun e w' => e = .returned (.bool (decide (l0 = l1))) ∧ Drawn0 w w' := by
  obtain ⟨A0, c0, rfl, hc0, hC0⟩ := h0
  obtain ⟨A1, c1, rfl, hc1, hC1⟩ := h1
  exact catchpitref03_Same.calls 1000001 A0 c0 l0 A1 c1 l1 _ w hC0 hc0 hC1 hc1 (Same_eq l0 l1 hl _ (by omega))
end Go.Proofs.YtakbnoelbmgmhaaDoorH
end
section
namespace Go.Proofs.YtakbnoelbmgmhaaDoorH
open Go
theorem take_d {l tl : List Oper} {i : Nat} {o : Oper} (h : l.drop i = o :: tl) : l.toArray[i]? = some o := by
  have h2 : (l.drop i)[0]? = some o := by rw [h]; rfl
  rw [List.getElem?_drop] at h2
  simpa using h2
theorem take_at {P : Program} {ops : Array Oper} {Q : Exit → Act → World → Prop} {md : Region.Mode} {S : World → Prop} {i : Nat} {oi : Oper} {fuel : Nat} {listed : Array Bool} {a : Act} {w : World} (hi : ops[i]? = some oi)
    (h : ops[i]? = some oi → wpAnyH P md ops Q S fuel listed a w) : wpAnyH P md ops Q S fuel listed a w := h hi
end Go.Proofs.YtakbnoelbmgmhaaDoorH
end
section
namespace Go.Proofs.YtakbnoelbmgmhaaDoorH
open Go.RowKit Go.Proofs.YtakbnoelbmgmhaaDoorW.PrintWords Go.Proofs.YtakbnoelbmgmhaaDoorW.PrintLast Go.Proofs.YtakbnoelbmgmhaaDoorW.PrintMore Go.Proofs.YtakbnoelbmgmhaaDoor.Pr
theorem bytesOf_append (a b : ByteArray) : bytesOf (a ++ b) = bytesOf a ++ bytesOf b := by
  unfold bytesOf
  rw [show (a ++ b).data.toList = a.data.toList ++ b.data.toList by simp, List.map_append]
theorem bytesOf_str {l : List Int} (h : ByteL l) : bytesOf (strOfNums l) = l := ofU8_u8s h
def chunkS (l : List Int) : ByteArray := hexS l.length ++ ⟨#[13, 10]⟩ ++ strOfNums l ++ ⟨#[13, 10]⟩
theorem chunkS_bytes {l : List Int} (h : ByteL l) (h0 : ¬ l.length = 0) : bytesOf (chunkS l) = chunkL l := by
  unfold chunkS chunkL
  rw [if_neg h0, bytesOf_append, bytesOf_append, bytesOf_append, bytesOf_hexS, bytesOf_str h]
  simp only [List.append_assoc]
  rfl
set_option maxHeartbeats 4000000 in
set_option maxRecDepth 100000 in
theorem refChunk_calls (A : Option Addr) (c : Nat) (l : List Int) (w : World) (hr : Kd.C (Kd.int .u8) w A l.length l) (hb : ByteL l) (hl : l.length ≤ 1073741824) (hG : TabOk w) :
    Calls Tryd.prog 15 #[.slice A l.length c] w fun e w' => ∃ v, e = .returned v ∧ RowB w' v (chunkL l) ∧ Below w.heap.size w w' := by
  by_cases h0 : l.length = 0
  · have e : chunkL l = [] := by unfold chunkL; rw [if_pos h0]
    have h0' : ((l.length : Nat) : Int) = 0 := by omega
    rw [e]
    generalize l.length = n at *
    subst h0
    go_enter Tryd.func15, Tryd.ntmps15
    go_wp2
    go_ret
    exact ⟨_, rfl, RowB.nil _, Below.refl _ _⟩
  · have hne : ((l.length : Int) == 0) = false := by rw [beq_eq_false_iff_ne]; omega
    have hw0 : IntKind.u64.wrap (l.length : Int) = l.length := by
      unfold IntKind.wrap
      simp [IntKind.bits, IntKind.signed]
      omega
    have hz := hexS_size l.length
    have h16 := hexL_le16 (n := l.length) (by omega)
    have hzs := strOfNums_size l
    have HP := Aside0.mk (fun W (hW : Below w.heap.size w W) => catchpitref01_Put.calls 17 (l.length : Int) (hexS l.length) W (hG.below hW) (ref01_Put l.length (by omega) 17 (by omega)))
    have HS := Aside0.mk (fun W (hW : Below w.heap.size w W) => Kd.C_string (P := Tryd.prog) (c := c) Tryd.underlying25 Tryd.underlying5 Tryd.underlying9 (Kd.C_below hr hW))
    have kb := fun W => print_bytes (P := Tryd.prog) 9 25 5 Tryd.underlying9 Tryd.underlying25 Tryd.underlying5 (chunkS l) W
    have hcs : hexS l.length ++ (⟨#[13, 10]⟩ : ByteArray) ++ strOfNums l ++ (⟨#[13, 10]⟩ : ByteArray) = chunkS l := rfl
    have hcz : (chunkS l).size ≤ 2147483648 := by
      unfold chunkS
      simp only [ByteArray.size_append]
      rw [hz, hzs]
      have : (⟨#[13, 10]⟩ : ByteArray).size = 2 := rfl
      omega
    have HRB := Aside0.mk (fun W => row_of_bytes W (chunkS l) (by omega))
    rw [chunkS_bytes hb h0] at HRB
    have hk1 : (hexS l.length).size + (⟨#[13, 10]⟩ : ByteArray).size ≤ 9223372036854775807 := by
      rw [hz]
      have : (⟨#[13, 10]⟩ : ByteArray).size = 2 := rfl
      omega
    have hk2 : (hexS l.length).size + 2 ≤ 9223372036854775807 := by rw [hz]; omega
    have hk3 : (hexS l.length).size + 2 + (strOfNums l).size ≤ 9223372036854775807 := by rw [hz, hzs]; omega
    have hk4 : (hexS l.length).size + 2 + (strOfNums l).size + 2 ≤ 9223372036854775807 := by rw [hz, hzs]; omega
    have hk2' : (9223372036854775807 < (hexS l.length).size + 2) = False := eq_false (by omega)
    have hk3' : (9223372036854775807 < (hexS l.length).size + 2 + (strOfNums l).size) = False := eq_false (by omega)
    have hk4' : (9223372036854775807 < (hexS l.length).size + 2 + (strOfNums l).size + 2) = False := eq_false (by omega)
    clear hr hG hb hz hzs hk1 hk2 hk3 hk4 h16 hcz
    generalize chunkL l = cl at *
    generalize chunkS l = cs at *
    generalize hexS l.length = hs at *
    generalize strOfNums l = sl at *
    go_enter Tryd.func15, Tryd.ntmps15
    go_upto_region 3 with (fail)
    refine wp_region_held_drew (S := (fun W => (convert 25 9 (.slice A l.length c)).run Tryd.prog W = .ok (.string sl) W)) (by kernel_rfl) ?_ (fun hHeld => ?_)
    · exact HS.out _ (by repeat (first | exact Below.refl _ _ | assumption | refine below_step ?_ (by assumption) | apply below_alloc | apply below_drew1))
    refine take_at (i := 0) (take_d rfl) ?_
    intro h_i
    refine wpAnyH_take (v := ?_) h_i (by kernel_rfl) (by kernel_rfl) (by kernel_rfl) (fun _ _ _ h => h) (Or.inl ⟨by rfl, ?_⟩) (by assumption) ?_
    case refine_2 => (intro w hSw; (try dsimp only at hSw); go_simp; (try with_reducible rfl))
    clear h_i
    try simp only [Act.put, List.setIfInBounds_toArray, List.set_cons_zero, List.set_cons_succ]
    refine take_at (i := 1) (take_d rfl) ?_
    intro h_i
    refine wpAnyH_take (v := ?_) h_i (by kernel_rfl) (by kernel_rfl) (by kernel_rfl) (fun _ _ _ h => h) (Or.inl ⟨by rfl, ?_⟩) (by assumption) ?_
    case refine_2 => (intro w hSw; (try dsimp only at hSw); go_simp; (try with_reducible rfl))
    clear h_i
    try simp only [Act.put, List.setIfInBounds_toArray, List.set_cons_zero, List.set_cons_succ]
    refine take_at (i := 2) (take_d rfl) ?_
    intro h_i
    refine wpAnyH_take (v := ?_) h_i (by kernel_rfl) (by kernel_rfl) (by kernel_rfl) (fun _ _ _ h => h) (Or.inl ⟨by rfl, ?_⟩) (by assumption) ?_
    case refine_2 => (intro w hSw; (try dsimp only at hSw); go_simp; (try with_reducible rfl))
    clear h_i
    try simp only [Act.put, List.setIfInBounds_toArray, List.set_cons_zero, List.set_cons_succ]
    refine take_at (i := 5) (take_d rfl) ?_
    intro h_i
    refine wpAnyH_take (v := ?_) h_i (by kernel_rfl) (by kernel_rfl) (by kernel_rfl) (fun _ _ _ h => h) (Or.inl ⟨by rfl, ?_⟩) (by assumption) ?_
    case refine_2 => (intro w hSw; (try dsimp only at hSw); go_simp; (try with_reducible rfl))
    clear h_i
    try simp only [Act.put, List.setIfInBounds_toArray, List.set_cons_zero, List.set_cons_succ]
    refine take_at (i := 6) (take_d rfl) ?_
    intro h_i
    refine wpAnyH_take (v := ?_) h_i (by kernel_rfl) (by kernel_rfl) (by kernel_rfl) (fun _ _ _ h => h) (Or.inl ⟨by rfl, ?_⟩) (by assumption) ?_
    case refine_2 => (intro w hSw; (try dsimp only at hSw); go_simp; (try with_reducible rfl))
    clear h_i
    try simp only [Act.put, List.setIfInBounds_toArray, List.set_cons_zero, List.set_cons_succ]
    refine wpAnyH_ready (rs := [3]) (by kernel_rfl) (by simp) ?_
    refine AllReadyH.cons (take_d rfl) (fun zK hK => ?_) AllReadyH.nil
    go_simp
    refine (HP.out _ (by repeat (first | exact Below.refl _ _ | assumption | refine below_step ?_ (by assumption) | apply below_alloc | apply below_drew1))).mono ?_
    rintro e w4 ⟨rfl, b4⟩
    have B4 := Aside0.mk (show Below w.heap.size w w4 from below_step (below_drew1 (Below.refl _ _)) b4)
    go_wp2_with fail
    refine hK.out _ _ ?_ (fun hHeld2 => ?_)
    · exact HS.out _ B4.out
    clear hK zK hHeld
    have hHeld := hHeld2
    clear hHeld2
    try simp only [Act.put, List.setIfInBounds_toArray, List.set_cons_zero, List.set_cons_succ]
    refine take_at (i := 4) (take_d rfl) ?_
    intro h_i
    refine wpAnyH_take (v := ?_) h_i (by kernel_rfl) (by kernel_rfl) (by kernel_rfl) (fun _ _ _ h => h) (Or.inl ⟨by rfl, ?_⟩) (by assumption) ?_
    case refine_2 => (intro w hSw; (try dsimp only at hSw); go_simp; (try with_reducible rfl))
    clear h_i
    try simp only [Act.put, List.setIfInBounds_toArray, List.set_cons_zero, List.set_cons_succ]
    refine take_at (i := 7) (take_d rfl) ?_
    intro h_i
    refine wpAnyH_take (v := ?_) h_i (by kernel_rfl) (by kernel_rfl) (by kernel_rfl) (fun _ _ _ h => h) (Or.inl ⟨by rfl, ?_⟩) (by assumption) ?_
    case refine_2 => (intro w hSw; (try dsimp only at hSw); go_simp; (try with_reducible rfl))
    clear h_i
    try simp only [Act.put, List.setIfInBounds_toArray, List.set_cons_zero, List.set_cons_succ]
    refine take_at (i := 8) (take_d rfl) ?_
    intro h_i
    refine wpAnyH_take (v := ?_) h_i (by kernel_rfl) (by kernel_rfl) (by kernel_rfl) (fun _ _ _ h => h) (Or.inl ⟨by rfl, ?_⟩) (by assumption) ?_
    case refine_2 => (intro w hSw; (try dsimp only at hSw); go_simp; (try with_reducible rfl))
    clear h_i
    try simp only [Act.put, List.setIfInBounds_toArray, List.set_cons_zero, List.set_cons_succ]
    refine wpAnyH_ready (rs := [9]) (by kernel_rfl) (by simp) ?_
    refine AllReadyH.cons (take_d rfl) (fun zK hK => ?_) AllReadyH.nil
    go_simp
    refine hK.out _ _ ?_ (fun hHeld2 => ?_)
    · exact HS.out _ (bytes_below B4.out B4.out.size 5 cs)
    clear hK zK hHeld
    have hHeld := hHeld2
    clear hHeld2
    try simp only [Act.put, List.setIfInBounds_toArray, List.set_cons_zero, List.set_cons_succ]
    refine take_at (i := 10) (take_d rfl) ?_
    intro h_i
    refine wpAnyH_take (v := ?_) h_i (by kernel_rfl) (by kernel_rfl) (by kernel_rfl) (fun _ _ _ h => h) (Or.inl ⟨by rfl, ?_⟩) (by assumption) ?_
    case refine_2 => (intro w hSw; (try dsimp only at hSw); go_simp; (try with_reducible rfl))
    clear h_i
    try simp only [Act.put, List.setIfInBounds_toArray, List.set_cons_zero, List.set_cons_succ]
    refine wpAnyH_done (by kernel_rfl) ?_ _
    go_wp2
    go_ret
    exact ⟨_, rfl, HRB.out w4, bytes_below B4.out B4.out.size 5 cs⟩
end Go.Proofs.YtakbnoelbmgmhaaDoorH
end
section
namespace Go.Proofs.YtakbnoelbmgmhaaDoorH
open Go.RowKit Go.ChangeShapes Go.WideShapes Go.ChangeAt Go.Proofs.YtakbnoelbmgmhaaDoorW.PrintWords
def TabOZ (w : World) : Prop := TabOk w ∧ TabZ w
theorem TabOZ.below {w w1 : World} (h : TabOZ w) (hb : Below w.heap.size w w1) : TabOZ w1 := ⟨h.1.below hb, h.2.below hb⟩
theorem tabOZ_of_laid {W : World} {L : List (String × DataW Unit)} (h : laidMetH Tryd.prog L W) (hp : (L.all fun x => x.2.handleName?.isNone) = true)
    (hf : L.filter (fun x => x.1 == "catchpit/octet.ends") = [("catchpit/octet.ends", Go.Proofs.YtakbnoelbmgmhaaDoor.Rows.laid_catchpit_octet_ends)])
    (hz : L.filter (fun x => x.1 == "math/bits.deBruijn64tab") = [("math/bits.deBruijn64tab", Go.Proofs.YtakbnoelbmgmhaaDoor.Rows.laid_math_bits_deBruijn64tab)]) (hs : W.ShapedOpen Tryd.prog) : TabOZ W :=
  ⟨tabOk_of_laid h hp hf hs, tabZ_of_laid h hp hz hs⟩
end Go.Proofs.YtakbnoelbmgmhaaDoorH
end
section
namespace Go.Proofs.YtakbnoelbmgmhaaDoor.Pe
open Go.RowKit Go.Proofs.YtakbnoelbmgmhaaDoorH Go.Proofs.YtakbnoelbmgmhaaDoorW.PrintWords Go.Proofs.YtakbnoelbmgmhaaDoorW.PrintLast Go.Proofs.YtakbnoelbmgmhaaDoorW.PrintMore Go.Proofs.YtakbnoelbmgmhaaDoor.Pr
open Classical in
noncomputable def catchpitlaw10_EnchunkParts.f (b : List Int) (l : List Fld) : Option Bool := if ByteL b ∧ Small1 l ∧ l.length ≤ 140737488351232 then some true else none
set_option maxHeartbeats 8000000 in
set_option maxRecDepth 100000 in
theorem catchpitlaw10_EnchunkParts.calls (A0 : Option Addr) (c0 : Nat) (b : List Int) (A1 : Option Addr) (c1 : Nat) (l : List Fld) (r : Bool) (w : World) (hr0 : Kd.C (Kd.int .u8) w A0 b.length b) (hc0 : b.length ≤ c0) (hr1 : Kd.C k68 w A1 l.length l) (hc1 : l.length ≤ c1) (hT : TabOZ w) (h : catchpitlaw10_EnchunkParts.f b l = some r) :
    Calls Tryd.prog 4 #[.slice A0 b.length c0, .slice A1 l.length c1] w fun e w' => e = .returned (.bool r) ∧ Below w.heap.size w w' := by
  unfold catchpitlaw10_EnchunkParts.f at h
  split at h
  case isFalse => cases h
  rename_i hf
  injection h with h
  subst h
  have HB := Aside0.mk hf.1
  have HS := Aside0.mk hf.2.1
  have HT := Aside0.mk (fun W (hW : Below w.heap.size w W) => (⟨hT.below hW, Kd.C_below hr0 hW, Kd.C_below hr1 hW⟩ : TabOZ W ∧ Kd.C (Kd.int .u8) W A0 b.length b ∧ Kd.C k68 W A1 l.length l))
  have HC0 := Aside0.mk hc0
  have HC1 := Aside0.mk hc1
  obtain ⟨K, hK⟩ := ref05_Great l hf.2.1 hf.2.2
  have HK := Aside0.mk (hK K (Nat.le_refl _))
  have hW0 := wakes10_calls w hT.2
  clear hf hT hr0 hr1 hc0 hc1 hK
  go_enter Tryd.func4, Tryd.ntmps4
  go_wp2_with fail
  refine hW0.mono ?_
  rintro e w1 ⟨rfl, b1⟩
  have B1 := Aside0.mk b1
  clear hW0 b1
  by_cases h500 : 500 < b.length
  · have h500' : (500 : Int) < (b.length : Int) := by omega
    go_wp2
    go_ret
    exact ⟨rfl, B1.out⟩
  have h500' : decide ((500 : Int) < (b.length : Int)) = false := by simp; omega
  have HL := Aside0.mk (show b.length ≤ 500 by omega)
  clear h500
  go_wp2_with fail
  refine (catchpitref05_Great.calls K A1 c1 l _ w1 (HT.out _ B1.out).2.2 HC1.out (HT.out _ B1.out).1.1 HK.out).mono ?_
  rintro e w2 ⟨rfl, hd2⟩
  have B2 := Aside0.mk (below_step B1.out hd2.below)
  clear hd2
  by_cases hg : 2000 < sumF l
  · rw [decide_eq_true hg]
    clear hg
    go_wp2
    go_ret
    exact ⟨rfl, B2.out⟩
  rw [decide_eq_false hg]
  have HSF := Aside0.mk (show sumF l ≤ 2000 by omega)
  clear hg
  have hLast := last_calls A1 c1 l w2 (HT.out _ B2.out).2.2 HC1.out (HT.out _ B2.out).1.1 HS.out (by have := HSF.out; omega)
  have HRL := Aside0.mk (fun W (hW : Below w.heap.size w W) => refLast_calls A1 c1 l W (HT.out _ hW).2.2 HC1.out (HT.out _ hW).1.1 HS.out (by have := HSF.out; omega))
  have HLR := Aside0.mk (show (if allRight l = true then lastL l else []).length ≤ 1000000 by
    have h := sectL_small l (by have := HSF.out; omega)
    split
    · unfold lastL
      rw [bytesOf_length]
      have h2 := sectL_le l
      have h3 := HSF.out
      unfold lastS
      rw [ByteArray.size_append]
      have : (⟨#[48, 13, 10]⟩ : ByteArray).size = 3 := rfl
      omega
    · exact Nat.zero_le _)
  generalize (if allRight l = true then lastL l else []) = ll at *
  generalize allRight l = ok at *
  obtain ⟨er, her⟩ : ∃ er : Int, (if ok = true then (0 : Int) else 1) = er := ⟨_, rfl⟩
  rw [her] at hLast
  have HER := Aside0.mk her
  clear her
  go_wp2_with fail
  refine hLast.mono ?_
  rintro e w3 ⟨v3, rfl, hr3, b3⟩
  have B3 := Aside0.mk (below_step B2.out b3)
  have HR3 := Aside0.mk hr3
  clear hLast b3 hr3
  have hRL := HRL.out _ B3.out
  go_wp2_with fail
  refine hRL.mono ?_
  rintro e w4 ⟨v4, rfl, hr4, b4⟩
  have B4 := Aside0.mk (below_step B3.out b4)
  have HR3' := Aside0.mk (HR3.out.below b4)
  have HR4 := Aside0.mk hr4
  clear hRL b4 hr4 HR3
  have hch := chunk_calls A0 c0 b w4 (HT.out _ B4.out).2.1 HC0.out HB.out (by have := HL.out; omega) (HT.out _ B4.out).1.2
  have HCL := Aside0.mk (chunkL_length b)
  have HCZ := Aside0.mk (show costN b.length ≤ 20 by
    unfold costN
    split
    · omega
    · have := hexL_le16 (n := b.length) (by have := HL.out; omega)
      omega)
  have HRC := Aside0.mk (fun W (hW : Below w.heap.size w W) => refChunk_calls A0 c0 b W (HT.out _ hW).2.1 HB.out (by have := HL.out; omega) (HT.out _ hW).1.1)
  generalize chunkL b = cl at *
  go_wp2_with fail
  refine hch.mono ?_
  rintro e w5 ⟨v5, rfl, hr5, b5⟩
  have B5 := Aside0.mk (below_step B4.out b5)
  have HR3'' := Aside0.mk (HR3'.out.below b5)
  have HR4' := Aside0.mk (HR4.out.below b5)
  clear hch b5 HR3' HR4
  obtain ⟨A5, c5, rfl, hc5, hC5⟩ := hr5
  have HR5 := Aside0.mk (show RowB w5 (.slice A5 cl.length c5) cl from ⟨A5, c5, rfl, hc5, hC5⟩)
  clear hC5
  have hRC := HRC.out _ B5.out
  go_wp2_with fail
  refine hRC.mono ?_
  rintro e w6 ⟨v6, rfl, hr6, b6⟩
  have B6 := Aside0.mk (below_step B5.out b6)
  have hSM := same_rows (HR5.out.below b6) hr6 (by have := HCL.out; have := HCZ.out; have := HL.out; omega)
  rw [decide_eq_true rfl] at hSM
  have HR3 := Aside0.mk (HR3''.out.below b6)
  have HR4 := Aside0.mk (HR4'.out.below b6)
  clear hRC b6 hr6 HR3'' HR4'
  go_wp2_with fail
  refine hSM.mono ?_
  rintro e w7 ⟨rfl, hd7⟩
  have B7 := Aside0.mk (below_step B6.out hd7.below)
  have HR3' := Aside0.mk (HR3.out.below hd7.below)
  have HR4' := Aside0.mk (HR4.out.below hd7.below)
  clear hSM hd7 HR3 HR4
  have hco := cost_calls (b.length : Int) (by have := HL.out; omega) w7 (HT.out _ B7.out).1.2
  rw [Int.toNat_natCast] at hco
  have hw8 : IntKind.i64.wrap ((cl.length : Int) - (b.length : Int)) = ((costN b.length : Nat) : Int) := by
    have h1 := HCL.out
    have h2 := HCZ.out
    have h3 := HL.out
    unfold IntKind.wrap
    simp [IntKind.bits, IntKind.signed]
    omega
  generalize costN b.length = cn at *
  go_wp2_with fail
  refine hco.mono ?_
  rintro e w8 ⟨rfl, b8⟩
  have B8 := Aside0.mk (below_step B7.out b8)
  have hS2 := same_rows (HR3'.out.below b8) (HR4'.out.below b8) HLR.out
  rw [decide_eq_true rfl] at hS2
  clear hco b8
  go_wp2_with fail
  refine hS2.mono ?_
  rintro e w9 ⟨rfl, hd9⟩
  have B9 := Aside0.mk (below_step B8.out hd9.below)
  clear hS2 hd9
  cases ok with
  | true =>
    obtain rfl : (0 : Int) = er := HER.out
    go_wp2
    go_ret
    exact ⟨rfl, B9.out⟩
  | false =>
    obtain rfl : (1 : Int) = er := HER.out
    go_wp2
    go_ret
    exact ⟨rfl, B9.out⟩
end Go.Proofs.YtakbnoelbmgmhaaDoor.Pe
end
section
namespace Go.Proofs.YtakbnoelbmgmhaaDoor.Pure
open Go.RowKit Go.Proofs.YtakbnoelbmgmhaaDoorH Go.Proofs.YtakbnoelbmgmhaaDoor.Pe Go.Proofs.YtakbnoelbmgmhaaDoorW.PrintWords Go.Proofs.YtakbnoelbmgmhaaDoorW.PrintLast
theorem EnchunkParts (b : List Int) (l : List Fld) (hb : b.length * 1 ≤ 140737488351232 ∧ ∀ y ∈ b, (Lit.int .u8 y).wf = true) (hl : l.length * 32 ≤ 140737488351232 ∧ ∀ y ∈ l, (y.f0.size ≤ 140737488351232 ∧ y.f1.size ≤ 140737488351232)) : catchpitlaw10_EnchunkParts.f b l = some true := by
  refine if_pos ⟨fun y hy => ?_, hl.2, by omega⟩
  have h := hb.2 y hy
  have m2 : IntKind.u8.max = 255 := rfl
  have m1 : IntKind.u8.min = 0 := rfl
  simp [Lit.wf, m1, m2] at h
  omega
end Go.Proofs.YtakbnoelbmgmhaaDoor.Pure
end
section
namespace Go.Proofs.YtakbnoelbmgmhaaDoorH
open Go.RowKit Go.ChangeShapes Go.WideShapes Go.ChangeAt Go.Proofs.YtakbnoelbmgmhaaDoorW.PrintWords
def Light {H : Type} (P : Program) (t : TypeId) (d : DataW H) : Prop := ∀ x ∈ DataW.weights P t d, x ≤ reachBytes
structure Opens (P : Program) {α : Type} (d : Kd α) (t : TypeId) (G : α → Prop) : Prop where
  cells : P.cellsOf t = d.sz
  open_ : ∀ {H : Type} {enc : TypeId × Value → H} {W : World} {fuel : Nat} {cs : List Value} {x : DataW H × List MemPlace},
    DataW.trod enc P W 0 (fun _ => true) true fuel t cs = some x → Light P t x.1 → ∃ y, d.K W y cs ∧ G y
theorem Opens.int {P : Program} {t : TypeId} {k : IntKind} (hu : P.underlying t = some (.int k)) (hc : P.cellsOf t = 1) : Opens P (Kd.int k) t (fun n => (Lit.int k n).wf = true) := by
  refine ⟨hc, fun h _ => ?_⟩
  obtain ⟨n, e1, e2, wf⟩ := DataW.trod_int hu h
  exact ⟨n, e1, wf⟩
theorem Opens.bool {P : Program} {t : TypeId} (hu : P.underlying t = some .bool) (hc : P.cellsOf t = 1) : Opens P Kd.bool t (fun _ => True) := by
  refine ⟨hc, fun {_ _ _ fuel cs _} h _ => ?_⟩
  cases fuel with
  | zero => simp [DataW.trod] at h
  | succ m =>
    unfold DataW.trod at h
    rw [hu] at h
    match cs, h with
    | [.bool b], _ => exact ⟨b, rfl, trivial⟩
theorem Opens.string {P : Program} {t : TypeId} (hu : P.underlying t = some .string) (hc : P.cellsOf t = 1) : Opens P Kd.string t (fun s => s.size ≤ 140737488351232) := by
  refine ⟨hc, fun h hl => ?_⟩
  obtain ⟨s, e1, e2, _⟩ := DataW.trod_string hu h
  refine ⟨s, e1, ?_⟩
  subst e2
  have := hl s.data.toList.length (by simp [DataW.weights])
  rw [data_length] at this
  exact this
theorem weightsAll_mem {H : Type} (P : Program) (e : TypeId) : ∀ (l : List (DataW H)) (d : DataW H), d ∈ l → ∀ x ∈ DataW.weights P e d, x ∈ DataW.weightsAll P e l
  | [], d, h, _, _ => by cases h
  | a :: l, d, h, x, hx => by
    rw [DataW.weightsAll]
    rcases List.mem_cons.1 h with rfl | h
    · exact List.mem_append_left _ hx
    · exact List.mem_append_right _ (weightsAll_mem P e l d h x hx)
theorem list_of {α : Type} {p : Nat → α → Prop} : ∀ n : Nat, (∀ i, i < n → ∃ y, p i y) → ∃ l : List α, l.length = n ∧ ∀ i y, l[i]? = some y → p i y
  | 0, _ => ⟨[], rfl, fun i y h => by simp at h⟩
  | n + 1, h => by
    obtain ⟨l, hl, hp⟩ := list_of n (fun i hi => h i (by omega))
    obtain ⟨y, hy⟩ := h n (by omega)
    refine ⟨l ++ [y], by simp [hl], fun i z hz => ?_⟩
    rcases Nat.lt_or_ge i n with hi | hi
    · rw [List.getElem?_append_left (by omega)] at hz
      exact hp i z hz
    · rw [List.getElem?_append_right (by omega), hl] at hz
      rcases Nat.eq_zero_or_pos (i - n) with h0 | h0
      · rw [h0] at hz
        obtain rfl : i = n := by omega
        obtain rfl : y = z := by simpa using hz
        exact hy
      · rw [List.getElem?_eq_none (by simp; omega)] at hz
        cases hz
theorem add_add (a : Addr) (i j : Nat) : (a.add i).add j = a.add (i + j) := by
  unfold Addr.add
  by_cases h1 : i = 0
  · subst h1; simp
  · by_cases h2 : j = 0
    · subst h2; simp [h1]
    · simp [h1, h2, Nat.add_assoc]
theorem cells_at {W : World} {base : Nat} {a : Addr} {n : Nat} {cs : List Value} (h : W.cells? base a n = some cs) : cs.length = n ∧ ∀ (i : Nat) u, cs[i]? = some u → W.cell? (a.add i) = some u := by
  obtain ⟨_, hn, hc⟩ := World.cells?_some h
  refine ⟨hn, fun i u hu => ?_⟩
  have hi : i < n := by
    rcases Nat.lt_or_ge i n with hi | hi
    · exact hi
    · rw [List.getElem?_eq_none (by omega)] at hu; cases hu
  rw [hc i hi, hu]
theorem Opens.slice {P : Program} {α : Type} {d : Kd α} {t e : TypeId} {G : α → Prop} (h : Opens P d e G) (hu : P.underlying t = some (.slice e)) (hc : P.cellsOf t = 1) {B : Nat} (hB : P.bytesOf e = B) :
    Opens P (Kd.slice e d) t (fun l => l.length * B ≤ 140737488351232 ∧ ∀ y ∈ l, G y) := by
  refine ⟨hc, fun {H enc W fuel cs x} hx hl => ?_⟩
  rcases Deep.open_slice hu hx with ⟨rfl, rfl⟩ | ⟨a, len, cap, m, n, D, Pl, rfl, _, hle, hm, hmm, rfl, hel⟩
  · exact ⟨[], ⟨none, 0, rfl, Nat.le_refl _, rfl, by simp, fun h => by simp at h⟩, by simp, fun y hy => by cases hy⟩
  · simp only [if_true] at hmm
    subst hmm
    have hw : (len + (m - len)) * B ≤ 140737488351232 := by
      have := hl ((len + (m - len)) * B) (by
        unfold DataW.weights
        simp only [hu, hB]
        simp)
      exact this
    have hget : ∀ i, i < len → ∃ y, (∃ c, c.length = d.sz ∧ d.K W y c ∧ ∀ j u, c[j]? = some u → W.cell? (a.add (i * d.sz + j)) = some u) ∧ G y := by
      intro i hi
      obtain ⟨cs', h1, h2⟩ := hel i (by omega)
      obtain ⟨y, hy, hg⟩ := h.open_ h2 (fun x hx => hl x (by
        unfold DataW.weights
        simp only [hu]
        refine List.mem_cons_of_mem _ (List.mem_append_left _ (weightsAll_mem P e _ (D i) ?_ x hx))
        exact List.mem_map.2 ⟨i, List.mem_range.2 hi, rfl⟩))
      obtain ⟨hn, hcell⟩ := cells_at h1
      refine ⟨y, ⟨cs', by rw [hn, h.cells], hy, fun j u hj => ?_⟩, hg⟩
      have := hcell j u hj
      rw [add_add, h.cells] at this
      exact this
    obtain ⟨l, hll, hat⟩ := list_of len hget
    refine ⟨l, ⟨some a, m, by rw [hll], by omega, rfl, by rw [hll]; unfold maxLen at hm; omega, fun _ => ⟨a, rfl, fun j p hj => (hat j p hj).1⟩⟩, ?_, fun y hy => ?_⟩
    · rw [hll]
      exact Nat.le_trans (Nat.mul_le_mul_right _ (by omega)) hw
    · obtain ⟨i, hi, rfl⟩ := List.mem_iff_getElem.1 hy
      exact (hat i _ (List.getElem?_eq_getElem hi)).2
theorem weights_agg {H : Type} {P : Program} {t : TypeId} {fs : Array Field} (hu : P.underlying t = some (.struct fs)) (xs : List (DataW H)) : DataW.weights P t (.agg xs) = DataW.weightsEach P (fs.toList.map (·.type)) xs := by
  simp [DataW.weights, hu]
theorem light_of {H : Type} {P : Program} {ts : List TypeId} {ds : List (DataW H)} (h : (DataW.weightsEach P ts ds).all (· ≤ reachBytes) = true) {j : Nat} {t : TypeId} {d : DataW H} (ht : ts[j]? = some t) (hd : ds[j]? = some d) : Light P t d := fun x hx => by
  have := List.all_eq_true.1 h x (DataW.weights_mem_each ht hd x hx)
  simpa using this
theorem Opens.struct2 {P : Program} {α β : Type} {d0 : Kd α} {d1 : Kd β} {t : TypeId} {f0 f1 : Field} {G0 : α → Prop} {G1 : β → Prop} (h0 : Opens P d0 f0.type G0) (h1 : Opens P d1 f1.type G1) (hu : P.underlying t = some (.struct #[f0, f1]))
    (o0 : f0.offset = 0) (o1 : f1.offset = d0.sz) (hc : P.cellsOf t = d0.sz + d1.sz) : Opens P (Kd.pair d0 d1) t (fun x => G0 x.1 ∧ G1 x.2) := by
  refine ⟨hc, fun {H enc W fuel cs x} hx hl => ?_⟩
  obtain ⟨y0, y1, n, rfl, hn, e0, e1⟩ := trod_struct2 hu hx
  have hw : ∀ x, x ∈ DataW.weights P t (.agg [y0.1, y1.1]) → x ≤ reachBytes := hl
  rw [weights_agg hu] at hw
  obtain ⟨x0, k0, g0⟩ := h0.open_ e0 (fun x hx => hw x (DataW.weights_mem_each (j := 0) rfl rfl x hx))
  obtain ⟨x1, k1, g1⟩ := h1.open_ e1 (fun x hx => hw x (DataW.weights_mem_each (j := 1) rfl rfl x hx))
  refine ⟨(x0, x1), ⟨_, _, ?_, k0, k1⟩, g0, g1⟩
  rw [o0, o1, h0.cells, h1.cells, List.drop_zero]
  rw [hc] at hn
  have : (cs.drop d0.sz).take d1.sz = cs.drop d0.sz := List.take_of_length_le (by rw [List.length_drop]; omega)
  rw [this, List.take_append_drop]
theorem Opens.iso {P : Program} {α β : Type} {d : Kd α} {t : TypeId} {G : α → Prop} (h : Opens P d t G) (f : β → α) (g : α → β) (hfg : ∀ y, f (g y) = y) : Opens P (Kd.iso d f) t (fun x => G (f x)) := by
  refine ⟨h.cells, fun {H enc W fuel cs x} hx hl => ?_⟩
  obtain ⟨y, hk, hg⟩ := h.open_ hx hl
  exact ⟨g y, show d.K W (f (g y)) cs by rw [hfg]; exact hk, by rw [hfg]; exact hg⟩
end Go.Proofs.YtakbnoelbmgmhaaDoorH
end
