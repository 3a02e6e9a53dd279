import Derived.Test.YtakbnoelbmgmhaaDoorZEnchunkFixedP0
import Derived.Test.YtakbnoelbmgmhaaDoorZEnchunkFixedP2
import Derived.Test.YtakbnoelbmgmhaaDoorZEnchunkFixedP1
import Derived.Test.YtakbnoelbmgmhaaDoorProg
import Derived.Below
import Derived.Deep.Draws
import Derived.Deep.AppendLies
import Derived.Maps.AppendAt
import Derived.OwnWalk
import Derived.Laws.BytesArg
import Derived.Laws.MakeOwn
import Derived.Laws.OwnMore
import Derived.Deep.OwnRows
import Derived.Tactics
import Derived.Lib.ConvBytes
import Derived.Laws.Slices
import Derived.WalkKit
import Derived.KernelRfl
import Derived.RowKit3
import Derived.Deep.LoopGhost
import Derived.Deep.QuietTactic
import Derived.BigQuiet
import Derived.WideLaws
import Derived.Deep.DeepCutAuto
import Derived.Deep.CutBlock
import Derived.Deep.RegionHeld3
import Derived.Laws.Rows
import Derived.Lib.AppendStr
import Derived.ArgAppend
import Derived.Laws.IdiomCopy
import Derived.OrdersHeld
import Derived.Laws.BitsLemmas
import Derived.RowKit
import Derived.Laws.StructEq
import Derived.ProofKit
import Derived.OpenShut
import Derived.Deep.Slices
import Derived.SizedLaws
import Derived.HandedShaped
import Derived.Handed
namespace Go.Proofs.YtakbnoelbmgmhaaDoorH
end Go.Proofs.YtakbnoelbmgmhaaDoorH
namespace Go.Proofs.YtakbnoelbmgmhaaDoorW.PrintWords
end Go.Proofs.YtakbnoelbmgmhaaDoorW.PrintWords
namespace Go.Proofs.YtakbnoelbmgmhaaDoorW.PrintLast
end Go.Proofs.YtakbnoelbmgmhaaDoorW.PrintLast
namespace Go.Proofs.YtakbnoelbmgmhaaDoorW.PrintMore
end Go.Proofs.YtakbnoelbmgmhaaDoorW.PrintMore
namespace Go.Proofs.YtakbnoelbmgmhaaDoor.Pq
end Go.Proofs.YtakbnoelbmgmhaaDoor.Pq
namespace Go.Proofs.YtakbnoelbmgmhaaDoor.Pe
end Go.Proofs.YtakbnoelbmgmhaaDoor.Pe
section
namespace Go.Proofs.YtakbnoelbmgmhaaDoor.Pq
open Go.RowKit Go.Proofs.YtakbnoelbmgmhaaDoorH Go.Proofs.YtakbnoelbmgmhaaDoorW.PrintWords Go.Proofs.YtakbnoelbmgmhaaDoorW.PrintLast Go.Proofs.YtakbnoelbmgmhaaDoorW.PrintMore
attribute [local go_sem] max2_int min2_int max_two min_two max_three min_three max_four min_four   -- for this text's walks alone
set_option linter.unusedVariables false
set_option linter.unusedSimpArgs false
def catchpitref03_Same.l0 : Nat → List Int → List Int → Int → Option (Bool)
  | 0, _, _, _ => none
  | k + 1, x0, x1, x5 => if x5 < (x0.length : Int) then (if 0 ≤ x5 then (if x5 < (x1.length : Int) then (if (rd x0 x5) = (rd x1 x5) then (catchpitref03_Same.l0 k x0 x1 (wrap64 (x5 + 1))) else (some false)) else (none)) else (none)) else (some true)
def catchpitref03_Same.f (k : Nat) (l0 : List Int) (l1 : List Int) : Option (Bool) := if (l0.length : Int) = (l1.length : Int) then (catchpitref03_Same.l0 k l0 l1 0) else (some false)
theorem catchpitref03_Same.mono_l : ∀ k, (∀ y0 y1 y2, LeO (catchpitref03_Same.l0 k y0 y1 y2) (catchpitref03_Same.l0 (k + 1) y0 y1 y2))
  | 0 => fun _ _ _ r h => by simp [catchpitref03_Same.l0] at h
  | k + 1 => by
    have ih0 := catchpitref03_Same.mono_l k
    · intro y0 y1 y2
      unfold catchpitref03_Same.l0
      repeat' first
      | (with_reducible exact ih0 _ _ _)
      | (with_reducible exact LeO.refl _)
      | (with_reducible exact LeO.none _)
      | (with_reducible refine LeO.ite ?_ ?_)
      | (with_reducible refine LeO.bind ?_ (fun _ => ?_))
      | exact ih0 _ _ _
      | exact LeO.none _
      | refine LeO.ite ?_ ?_
      | refine LeO.bind ?_ (fun _ => ?_)
theorem catchpitref03_Same.mono : ∀ a0 a1 k, LeO (catchpitref03_Same.f k a0 a1) (catchpitref03_Same.f (k + 1) a0 a1) := by
  intro a0 a1 k
  have ih0 := catchpitref03_Same.mono_l k
  unfold catchpitref03_Same.f
  repeat' first
      | (with_reducible exact ih0 _ _ _)
      | (with_reducible exact LeO.refl _)
      | (with_reducible exact LeO.none _)
      | (with_reducible refine LeO.ite ?_ ?_)
      | (with_reducible refine LeO.bind ?_ (fun _ => ?_))
      | exact ih0 _ _ _
      | exact LeO.none _
      | refine LeO.ite ?_ ?_
      | refine LeO.bind ?_ (fun _ => ?_)
set_option maxHeartbeats 8000000 in
set_option maxRecDepth 100000 in
theorem catchpitref03_Same.calls (k : Nat) (A0 : Option Addr) (c0 : Nat) (l0 : List Int) (A1 : Option Addr) (c1 : Nat) (l1 : List Int) (r : Bool) (w : World) (hr0 : Kd.C (Kd.int .u8) w A0 l0.length l0) (hc0 : l0.length ≤ c0) (hr1 : Kd.C (Kd.int .u8) w A1 l1.length l1) (hc1 : l1.length ≤ c1) (h : catchpitref03_Same.f k l0 l1 = some r) :
    Calls Tryd.prog 14 #[.slice A0 l0.length c0, .slice A1 l1.length c1] w fun e w' => e = .returned (.bool r) ∧ Drawn0 w w' := by
  have HR0 := Aside0.mk hr0
  have HC0 := Aside0.mk hc0
  clear hr0 hc0
  have HR1 := Aside0.mk hr1
  have HC1 := Aside0.mk hc1
  clear hr1 hc1
  have H : (if (l0.length : Int) = (l1.length : Int) then (catchpitref03_Same.l0 k l0 l1 0) else (some false)) = some r := h
  clear h
  by_cases c3 : (l0.length : Int) = (l1.length : Int)
  · rw [if_pos c3] at H
    have c3b0 : ((l0.length : Int) == (l1.length : Int)) = true := beq_iff_eq.mpr c3
    have c3b1 : ((l0.length : Int) != (l1.length : Int)) = false := bne_eq_false_iff_eq.mpr c3
    have c3b2 : (l0.length == l1.length) = true := by first | simpa using c3 | (simp at c3 ⊢; omega)
    clear c3
    have H' := Aside0.mk H
    clear H
    go_enter Tryd.func14, Tryd.ntmps14
    go_wp2
    repeat (go_quiet (fail); try go_wp2)
    go_loopg [5] k (fun kq v5 w' => ∃ (x5_1 : Int), v5 = .int .i64 x5_1 ∧ Aside0 (catchpitref03_Same.l0 kq l0 l1 x5_1 = some r) ∧ Aside0 (kq ≤ k) ∧ Drawn0 w w')
    case atStart => exact ⟨(0), (by first | rfl | (simp; done) | (simp [*]; done)), H', ⟨Nat.le_refl _⟩, by repeat (first | exact Drawn0.refl _ | apply Drawn0.step)⟩
    case round =>
      clear H'
      try clear c1
      try clear p2
      try clear c3
      try clear c3b0
      try clear c3b1
      try clear c3b2
      obtain ⟨x5_1, rfl, HA, HK1, ⟨m1, rfl⟩⟩ := hrel
      cases gk with
      | zero => exact absurd HA.out (by simp [catchpitref03_Same.l0])
      | succ k1 =>
        have H := HA.out
        clear HA
        simp only [catchpitref03_Same.l0] at H
        by_cases c4 : x5_1 < (l0.length : Int)
        · rw [if_pos c4] at H
          have c4b0 : decide (x5_1 < (l0.length : Int)) = true := decide_eq_true c4
          clear c4
          by_cases c5 : 0 ≤ x5_1
          · rw [if_pos c5] at H
            have c5b0 : decide (0 ≤ x5_1) = true := decide_eq_true c5
            clear c5
            by_cases c6 : x5_1 < (l1.length : Int)
            · rw [if_pos c6] at H
              have c6b0 : decide (x5_1 < (l1.length : Int)) = true := decide_eq_true c6
              clear c6
              by_cases c7 : (rd l0 x5_1) = (rd l1 x5_1)
              · rw [if_pos c7] at H
                have c7b0 : ((rd l0 x5_1) == (rd l1 x5_1)) = true := beq_iff_eq.mpr c7
                have c7b1 : ((rd l0 x5_1) != (rd l1 x5_1)) = false := bne_eq_false_iff_eq.mpr c7
                clear c7
                have H' := Aside0.mk H
                clear H
                have p101 : 0 ≤ (x5_1 : Int) := of_decide_eq_true (by first | (with_reducible assumption) | assumption)
                have q101 : x5_1 < (l0.length : Int) := of_decide_eq_true (by first | (with_reducible assumption) | assumption)
                obtain ⟨ad101, e101, hx101_0⟩ := Kd.at_int HR0.out x5_1 p101 q101
                cases e101
                replace p101 := eq_true p101
                replace q101 := eq_true q101
                have p102 : 0 ≤ (x5_1 : Int) := of_decide_eq_true (by first | (with_reducible assumption) | assumption)
                have q102 : x5_1 < (l1.length : Int) := of_decide_eq_true (by first | (with_reducible assumption) | assumption)
                obtain ⟨ad102, e102, hx102_0⟩ := Kd.at_int HR1.out x5_1 p102 q102
                cases e102
                replace p102 := eq_true p102
                replace q102 := eq_true q102
                go_wp2
                repeat (go_quiet (fail); try go_wp2)
                go_roundg k1
                case measure => have := HK1.out; omega
                case rel => exact ⟨(wrap64 (x5_1 + 1)), (by first | rfl | (simp; done) | (simp [*]; done)), H', ⟨by have := HK1.out; omega⟩, by repeat (first | exact Drawn0.refl _ | apply Drawn0.step)⟩
              · rw [if_neg c7] at H
                have c7b0 : ((rd l0 x5_1) == (rd l1 x5_1)) = false := beq_eq_false_iff_ne.mpr c7
                have c7b1 : ((rd l0 x5_1) != (rd l1 x5_1)) = true := bne_iff_ne.mpr c7
                obtain rfl := Option.some.inj H
                have p101 : 0 ≤ (x5_1 : Int) := of_decide_eq_true (by first | (with_reducible assumption) | assumption)
                have q101 : x5_1 < (l0.length : Int) := of_decide_eq_true (by first | (with_reducible assumption) | assumption)
                obtain ⟨ad101, e101, hx101_0⟩ := Kd.at_int HR0.out x5_1 p101 q101
                cases e101
                replace p101 := eq_true p101
                replace q101 := eq_true q101
                have p102 : 0 ≤ (x5_1 : Int) := of_decide_eq_true (by first | (with_reducible assumption) | assumption)
                have q102 : x5_1 < (l1.length : Int) := of_decide_eq_true (by first | (with_reducible assumption) | assumption)
                obtain ⟨ad102, e102, hx102_0⟩ := Kd.at_int HR1.out x5_1 p102 q102
                cases e102
                replace p102 := eq_true p102
                replace q102 := eq_true q102
                go_wp2
                repeat (go_quiet (fail); try go_wp2)
                go_ret
                exact ⟨by first | rfl | (simp; done) | (simp [*]; done), by repeat (first | exact Drawn0.refl _ | apply Drawn0.step)⟩
            · rw [if_neg c6] at H
              exact absurd H (by simp)
          · rw [if_neg c5] at H
            exact absurd H (by simp)
        · rw [if_neg c4] at H
          have c4b0 : decide (x5_1 < (l0.length : Int)) = false := decide_eq_false c4
          clear c4
          obtain rfl := Option.some.inj H
          go_wp2
          repeat (go_quiet (fail); try go_wp2)
          go_ret
          exact ⟨by first | rfl | (simp; done) | (simp [*]; done), by repeat (first | exact Drawn0.refl _ | apply Drawn0.step)⟩
  · rw [if_neg c3] at H
    have c3b0 : ((l0.length : Int) == (l1.length : Int)) = false := beq_eq_false_iff_ne.mpr c3
    have c3b1 : ((l0.length : Int) != (l1.length : Int)) = true := bne_iff_ne.mpr c3
    have c3b2 : (l0.length == l1.length) = false := by first | simpa using c3 | (simp at c3 ⊢; omega)
    obtain rfl := Option.some.inj H
    go_enter Tryd.func14, Tryd.ntmps14
    go_wp2
    repeat (go_quiet (fail); try go_wp2)
    go_ret
    exact ⟨by first | rfl | (simp; done) | (simp [*]; done), by repeat (first | exact Drawn0.refl _ | apply Drawn0.step)⟩
end Go.Proofs.YtakbnoelbmgmhaaDoor.Pq
end
section
namespace Go.Proofs.YtakbnoelbmgmhaaDoorH
open Go.RowKit Go.Proofs.YtakbnoelbmgmhaaDoorW.PrintWords Go.Proofs.YtakbnoelbmgmhaaDoorW.PrintLast Go.Proofs.YtakbnoelbmgmhaaDoorW.PrintMore Go.Proofs.YtakbnoelbmgmhaaDoor.Pq
theorem rd_nat (l : List Int) (i : Nat) : rd l (i : Int) = l.getD i 0 := by
  unfold rd
  rw [Int.toNat_natCast]
theorem Same_l0 (l0 l1 : List Int) (he : l0.length = l1.length) (hl : l0.length ≤ 1000000) : ∀ (d i k : Nat), l0.length - i = d → i ≤ l0.length → d < k → catchpitref03_Same.l0 k l0 l1 (i : Int) = some (decide (l0.drop i = l1.drop i))
  | 0, i, k, h1, h2, h3 => by
    obtain ⟨k, rfl⟩ : ∃ m, k = m + 1 := ⟨k - 1, by omega⟩
    rw [catchpitref03_Same.l0, if_neg (by omega), List.drop_eq_nil_of_le (by omega), List.drop_eq_nil_of_le (by omega)]
    rfl
  | d + 1, i, k, h1, h2, h3 => by
    obtain ⟨k, rfl⟩ : ∃ m, k = m + 1 := ⟨k - 1, by omega⟩
    have hw : wrap64 ((i : Int) + 1) = ((i + 1 : Nat) : Int) := by unfold wrap64; omega
    have e0 : l0.drop i = l0.getD i 0 :: l0.drop (i + 1) := by
      rw [List.getD_eq_getElem?_getD, List.getElem?_eq_getElem (by omega)]
      exact List.drop_eq_getElem_cons (by omega)
    have e1 : l1.drop i = l1.getD i 0 :: l1.drop (i + 1) := by
      rw [List.getD_eq_getElem?_getD, List.getElem?_eq_getElem (by omega)]
      exact List.drop_eq_getElem_cons (by omega)
    rw [catchpitref03_Same.l0, if_pos (by omega), if_pos (by omega), if_pos (by omega), rd_nat, rd_nat, hw, e0, e1]
    by_cases h : l0.getD i 0 = l1.getD i 0
    · rw [if_pos h, Same_l0 l0 l1 he hl d (i + 1) k (by omega) (by omega) (by omega), h]
      simp
    · rw [if_neg h, decide_eq_false (fun e => h (List.cons.inj e).1)]
theorem Same_eq (l0 l1 : List Int) (hl : l0.length ≤ 1000000) (k : Nat) (hk : l0.length < k) : catchpitref03_Same.f k l0 l1 = some (decide (l0 = l1)) := by
  unfold catchpitref03_Same.f
  by_cases he : l0.length = l1.length
  · rw [if_pos (by omega)]
    have := Same_l0 l0 l1 he hl l0.length 0 k (by omega) (by omega) hk
    rwa [List.drop_zero, List.drop_zero] at this
  · rw [if_neg (by omega), decide_eq_false (fun e => he (by rw [e]))]
theorem same_rows {w : World} {v0 v1 : Value} {l0 l1 : List Int} (h0 : RowB w v0 l0) (h1 : RowB w v1 l1) (hl : l0.length ≤ 1000000) :
    Calls Tryd.prog 14 #[v0, v1] w fun e w' => e = .returned (.bool (decide (l0 = l1))) ∧ Drawn0 w w' := by
  obtain ⟨A0, c0, rfl, hc0, hC0⟩ := h0
  obtain ⟨A1, c1, rfl, hc1, hC1⟩ := h1
  exact catchpitref03_Same.calls 1000001 A0 c0 l0 A1 c1 l1 _ w hC0 hc0 hC1 hc1 (Same_eq l0 l1 hl _ (by omega))
end Go.Proofs.YtakbnoelbmgmhaaDoorH
end
section
namespace Go.Proofs.YtakbnoelbmgmhaaDoor.Pe
open Go.RowKit Go.Proofs.YtakbnoelbmgmhaaDoorH Go.Proofs.YtakbnoelbmgmhaaDoorW.PrintWords Go.Proofs.YtakbnoelbmgmhaaDoorW.PrintLast Go.Proofs.YtakbnoelbmgmhaaDoorW.PrintMore
def sumP (ls : List (List Int)) : Nat := (ls.map fun l => l.length + 1).sum
theorem sumP_cons (l : List Int) (ls : List (List Int)) : sumP (l :: ls) = l.length + 1 + sumP ls := by simp [sumP]
theorem sumP_take (ls : List (List Int)) (k : Nat) (h : k < ls.length) : sumP (ls.take (k + 1)) = sumP (ls.take k) + (ls[k].length + 1) := by
  unfold sumP
  rw [List.take_add_one, List.getElem?_eq_getElem h, List.map_append, List.sum_append]
  rfl
theorem sumP_mem : ∀ (ls : List (List Int)) (l : List Int), l ∈ ls → l.length + 1 ≤ sumP ls
  | x :: ls, l, h => by
    rw [sumP_cons]
    rcases List.mem_cons.1 h with rfl | h
    · omega
    · have := sumP_mem ls l h
      omega
abbrev KB : Kd (List Int) := Kd.slice 5 (Kd.int .u8)
theorem at_piece {w : World} {A : Option Addr} {n : Nat} {ls : List (List Int)} (h : Kd.C KB w A n ls) (k : Nat) (h1 : k < n) :
    ∃ ad A1 c1, A = some ad ∧ w.cell? (ad.add k) = some (.slice A1 (ls.getD k []).length c1) ∧ (ls.getD k []).length ≤ c1 ∧ Kd.C (Kd.int .u8) w A1 (ls.getD k []).length (ls.getD k []) := by
  obtain ⟨ad, c, e, _, hK, hc0⟩ := Kd.C_get h [] (k : Int) (by omega) (by omega)
  have hc : ∀ j u, c[j]? = some u → w.cell? (ad.add ((k : Int).toNat * 1 + j)) = some u := hc0
  obtain ⟨A1, c1, rfl, hle, hC⟩ := hK
  rw [Int.toNat_natCast] at hC hle hc
  refine ⟨ad, A1, c1, e, ?_, hle, hC⟩
  have := hc 0 _ rfl
  rwa [Nat.mul_one, Nat.add_zero] at this
def catchpitlaw10_EnchunkFixed.f (size : Int) (ls : List (List Int)) : Option Bool := if (0 ≤ size ∧ size ≤ 255) ∧ ∀ l ∈ ls, l.length ≤ 140737488351232 then some true else none
set_option maxHeartbeats 8000000 in
set_option maxRecDepth 100000 in
theorem catchpitlaw10_EnchunkFixed.calls (size : Int) (A1 : Option Addr) (c1 : Nat) (ls : List (List Int)) (r : Bool) (w : World) (hr1 : Kd.C KB w A1 ls.length ls) (_hc1 : ls.length ≤ c1) (hT : TabZ w) (h : catchpitlaw10_EnchunkFixed.f size ls = some r) :
    Calls Tryd.prog 5 #[.int .u8 size, .slice A1 ls.length c1] w fun e w' => e = .returned (.bool r) ∧ Below w.heap.size w w' := by
  unfold catchpitlaw10_EnchunkFixed.f at h
  split at h
  case isFalse => cases h
  rename_i hf
  injection h with h
  subst h
  obtain ⟨sz, rfl⟩ := Int.eq_ofNat_of_zero_le hf.1.1
  have hz255 : sz ≤ 255 := by have := hf.1.2; omega
  have HT := Aside0.mk (fun W (hW : Below w.heap.size w W) => (TabZ.below hT hW : TabZ W))
  have HR := Aside0.mk (fun W (hW : Below w.heap.size w W) => (Kd.C_below hr1 hW : Kd.C KB W A1 ls.length ls))
  have HLS := Aside0.mk hf.2
  have hmax : ls.length ≤ 9223372036854775807 := hr1.2.1
  have HT0 := Aside0.mk hT
  clear hT hr1 hf
  have hw0 : IntKind.u64.wrap (sz : Int) = sz := by
    unfold IntKind.wrap
    simp [IntKind.bits, IntKind.signed]
    omega
  have hw0' : IntKind.i64.wrap (sz : Int) = sz := by
    unfold IntKind.wrap
    simp [IntKind.bits, IntKind.signed]
    omega
  have hbd : ∀ W : World, (Instr.build 42 #[(0, .int .i64 1), (1, .int .u64 sz)]).run Tryd.prog W = .ok (.agg #[.int .i64 1, .int .u64 sz]) W := fun _ => by kernel_rfl
  go_enter Tryd.func5, Tryd.ntmps5
  go_wp2_with fail
  refine (wakes10_calls w HT0.out).mono ?_
  rintro e w1 ⟨rfl, b1⟩
  have B1 := Aside0.mk b1
  clear b1
  go_wp2_with fail
  go_loopw [5, 21] (fun u5 u21 wr => ∃ k x : Nat, u5 = .int .i64 (x : Int) ∧ u21 = .int .i64 (k : Int) ∧ k ≤ ls.length ∧ x ≤ 500 ∧ Aside0 (x = sumP (ls.take k)) ∧ wr = w1) (fun _ u21 _ => ls.length - (intOf u21).toNat)
  case atStart => exact ⟨0, 0, rfl, rfl, Nat.zero_le _, Nat.zero_le _, ⟨rfl⟩, by trivial⟩
  case round =>
    obtain ⟨k, x, rfl, rfl, hk, hx5, hx, rfl⟩ := hrel
    by_cases hlt : k < ls.length
    · have hlt' : (k : Int) < (ls.length : Int) := by omega
      obtain ⟨ad, A2, c2, eA, hcell, hle2, hC2⟩ := at_piece (HR.out _ B1.out) k hlt
      subst eA
      have hstep := sumP_take ls k hlt
      have hgd : ls.getD k [] = ls[k] := by rw [List.getD_eq_getElem?_getD, List.getElem?_eq_getElem hlt]; rfl
      rw [hgd] at hcell
      have HST := Aside0.mk hstep
      have hsmall := HLS.out _ (List.getElem_mem hlt)
      clear hstep hgd hC2 hle2
      generalize ls[k].length = m at *
      have hw1 : IntKind.i64.wrap ((m : Int) + 1) = (m : Int) + 1 := by
        unfold IntKind.wrap
        simp [IntKind.bits, IntKind.signed]
        omega
      have hw2 : IntKind.i64.wrap ((x : Int) + ((m : Int) + 1)) = (x : Int) + ((m : Int) + 1) := by
        unfold IntKind.wrap
        simp [IntKind.bits, IntKind.signed]
        omega
      have hw3 : IntKind.i64.wrap ((k : Int) + 1) = (k : Int) + 1 := by
        unfold IntKind.wrap
        simp [IntKind.bits, IntKind.signed]
        omega
      by_cases h500 : 500 < x + (m + 1)
      · have h500' : (500 : Int) < (x : Int) + ((m : Int) + 1) := by omega
        go_wp2
        go_ret
        exact ⟨rfl, B1.out⟩
      · have h500' : ¬ (500 : Int) < (x : Int) + ((m : Int) + 1) := by omega
        go_wp2
        go_roundw
        case rel => exact ⟨k + 1, x + (m + 1), by simp, by simp, hlt, by omega, ⟨by rw [HST.out, ← hx.out]⟩, by trivial⟩
        case measure => simp [intOf]; omega
    · have hge : ¬ (k : Int) < (ls.length : Int) := by omega
      have HSUM := Aside0.mk (show sumP ls ≤ 500 by have := hx.out; rw [List.take_of_length_le (by omega)] at this; omega)
      clear hx
      have HN := fun W => enc_new1 sz (by omega) W
      go_wp2_with fail
      refine (HN _).mono ?_
      rintro e w3 ⟨b, rfl, he3, b3⟩
      clear HN
      obtain ⟨B0, hB0⟩ : ∃ B0, wr.heap.size = B0 := ⟨_, rfl⟩
      rw [hB0] at he3 b3
      have B3 := Aside0.mk (B1.out.trans (b3.mono (by rw [← hB0]; exact B1.out.size)))
      have HB0 := Aside0.mk (show w.heap.size ≤ B0 by rw [← hB0]; exact B1.out.size)
      have HE3 := Aside0.mk he3
      clear he3 b3 hB0 B1 HT0
      have hne : ∀ W : World, (binOp .eql 37 (.pointer (some ⟨b, 0, none⟩)) (.pointer none)).run Tryd.prog W = .ok (.bool false) W := fun _ => by kernel_rfl
      go_wp2_with fail
      go_loopw [10, 48] (fun u10 u48 wr => ∃ j G : Nat, u10 = .int .i64 (G : Int) ∧ u48 = .int .i64 (j : Int) ∧ j ≤ ls.length ∧ G ≤ sz ∧ Aside0 (EncAt wr B0 b 1 G sz false) ∧ Aside0 (Below w.heap.size w wr)) (fun _ u48 _ => ls.length - (intOf u48).toNat)
      case atStart => exact ⟨0, 0, rfl, rfl, Nat.zero_le _, Nat.zero_le _, HE3, B3⟩
      case round =>
        obtain ⟨j, G, rfl, rfl, hj, hG, he, hb⟩ := hrel
        by_cases hjl : j < ls.length
        · have hjl' : (j : Int) < (ls.length : Int) := by omega
          obtain ⟨ad, A2, c2, eA, hcell0, hle2, hC2⟩ := at_piece (HR.out _ (Below.refl _ _)) j hjl
          subst eA
          have hgd : ls.getD j [] = ls[j] := by rw [List.getD_eq_getElem?_getD, List.getElem?_eq_getElem hjl]; rfl
          rw [hgd] at hcell0 hC2 hle2
          have hlen := sumP_mem ls _ (List.getElem_mem hjl)
          have hsum := HSUM.out
          clear hgd
          generalize ls[j] = l at *
          have hcell := pw_cell_below hb.out hcell0
          have HC2 := Aside0.mk (show Keeps B0 wr (fun W => Kd.C (Kd.int .u8) W A2 l.length l) from fun W hW => Kd.C_below hC2 (hb.out.trans (hW.mono HB0.out)))
          have HC2' := Aside0.mk hC2
          have HLE2 := Aside0.mk hle2
          clear hC2 hcell0 hle2
          have hw2 : IntKind.i64.wrap ((G : Int) + (l.length : Int)) = (G : Int) + (l.length : Int) := by
            unfold IntKind.wrap
            simp [IntKind.bits, IntKind.signed]
            omega
          have hw3 : IntKind.i64.wrap ((j : Int) + 1) = (j : Int) + 1 := by
            unfold IntKind.wrap
            simp [IntKind.bits, IntKind.signed]
            omega
          by_cases hfull : sz < G + l.length
          · have hfull' : (sz : Int) < (G : Int) + (l.length : Int) := by omega
            have hp := enc_full B0 b G sz (A2) l.length c2 wr he.out hG (by omega) (by omega) (by omega)
            go_wp2_with fail
            refine hp.mono ?_
            rintro e w5 ⟨rfl, hd⟩
            have HE5 := Aside0.mk (he.out.below hd.below)
            have HB5 := Aside0.mk (hb.out.trans (hd.below.mono hb.out.size))
            clear hp hd
            go_wp2
            go_roundw
            case rel => exact ⟨j + 1, G, rfl, by simp, hjl, hG, HE5, HB5⟩
            case measure => simp [intOf]; omega
          · have hfull' : ¬ (sz : Int) < (G : Int) + (l.length : Int) := by omega
            have hp := enc_put1 B0 b G sz A2 c2 l wr he.out HC2.out (by omega) hG (by omega) (by omega)
            go_wp2_with fail
            refine hp.mono ?_
            rintro e w5 ⟨v5, rfl, hrow, he5, hb5⟩
            have HE5 := Aside0.mk he5
            have HB5 := Aside0.mk (hb.out.trans (hb5.mono HB0.out))
            have HSM := same_rows hrow (show RowB w5 (.slice A2 l.length c2) l from ⟨_, _, rfl, HLE2.out, HC2.out _ hb5⟩) (by omega)
            rw [decide_eq_true rfl] at HSM
            obtain ⟨A5, c5, rfl, hc5, hC5⟩ := hrow
            have HC5 := Aside0.mk hC5
            clear hp he5 hb5 hC5
            go_wp2_with fail
            refine HSM.mono ?_
            rintro e w6 ⟨rfl, hd6⟩
            have HE6 := Aside0.mk (HE5.out.below hd6.below)
            have HB6 := Aside0.mk (HB5.out.trans (hd6.below.mono HB5.out.size))
            clear HSM hd6
            have hl := enc_left1 B0 b (G + l.length) sz false w6 HE6.out (by omega) (by omega)
            obtain ⟨y, hy⟩ : ∃ y, sz - (G + l.length) = y := ⟨_, rfl⟩
            rw [hy] at hl
            have hw4 : IntKind.i64.wrap ((sz : Int) - ((G : Int) + (l.length : Int))) = (y : Int) := by
              unfold IntKind.wrap
              simp [IntKind.bits, IntKind.signed]
              omega
            have hw5 : IntKind.u64.wrap (y : Int) = (y : Int) := by
              unfold IntKind.wrap
              simp [IntKind.bits, IntKind.signed]
              omega
            go_wp2_with fail
            refine hl.mono ?_
            rintro e w7 ⟨rfl, hd7⟩
            have HE7 := Aside0.mk (HE6.out.below hd7.below)
            have HB7 := Aside0.mk (HB6.out.trans (hd7.below.mono HB6.out.size))
            clear hl hd7 hy
            go_wp2
            go_roundw
            case rel => exact ⟨j + 1, G + l.length, by simp, by simp, hjl, by omega, HE7, HB7⟩
            case measure => simp [intOf]; omega
        · have hge2 : ¬ (j : Int) < (ls.length : Int) := by omega
          by_cases hGs : G = sz
          · subst hGs
            have hp := enc_end1_nil B0 b G G 0 wr he.out rfl (by omega)
            go_wp2_with fail
            refine hp.mono ?_
            rintro e w5 ⟨rfl, he5, hb5⟩
            have HB5 := Aside0.mk (hb.out.trans (hb5.mono HB0.out))
            clear hp he5 hb5
            go_wp2
            go_ret
            exact ⟨rfl, HB5.out⟩
          · have hGlt : (G : Int) < (sz : Int) := by omega
            have hGne : ((G : Int) == (sz : Int)) = false := by rw [beq_eq_false_iff_ne]; omega
            have hp := enc_end1_more B0 b G sz none 0 0 wr he.out (by omega) (by omega)
            go_wp2_with fail
            refine hp.mono ?_
            rintro e w5 ⟨rfl, he5, hb5⟩
            have HB5 := Aside0.mk (hb.out.trans (hb5.mono HB0.out))
            clear hp he5 hb5
            go_wp2
            go_ret
            exact ⟨rfl, HB5.out⟩
end Go.Proofs.YtakbnoelbmgmhaaDoor.Pe
end
section
namespace Go.Proofs.YtakbnoelbmgmhaaDoor.Pure
open Go.RowKit Go.Proofs.YtakbnoelbmgmhaaDoorH Go.Proofs.YtakbnoelbmgmhaaDoor.Pe Go.Proofs.YtakbnoelbmgmhaaDoorW.PrintWords Go.Proofs.YtakbnoelbmgmhaaDoorW.PrintLast
theorem EnchunkFixed (a : Int) (ls : List (List Int)) (ha : (Lit.int .u8 a).wf = true) (hl : ls.length * 24 ≤ 140737488351232 ∧ ∀ y ∈ ls, (y.length * 1 ≤ 140737488351232 ∧ ∀ z ∈ y, (Lit.int .u8 z).wf = true)) : catchpitlaw10_EnchunkFixed.f a ls = some true := by
  refine if_pos ⟨?_, fun l h => by have := (hl.2 l h).1; omega⟩
  have m2 : IntKind.u8.max = 255 := rfl
  have m1 : IntKind.u8.min = 0 := rfl
  simp [Lit.wf, m1, m2] at ha
  omega
end Go.Proofs.YtakbnoelbmgmhaaDoor.Pure
end
section
namespace Go.Proofs.YtakbnoelbmgmhaaDoorH
open Go.RowKit Go.ChangeShapes Go.WideShapes Go.ChangeAt Go.Proofs.YtakbnoelbmgmhaaDoorW.PrintWords
def Light {H : Type} (P : Program) (t : TypeId) (d : DataW H) : Prop := ∀ x ∈ DataW.weights P t d, x ≤ reachBytes
structure Opens (P : Program) {α : Type} (d : Kd α) (t : TypeId) (G : α → Prop) : Prop where
  cells : P.cellsOf t = d.sz
  open_ : ∀ {H : Type} {enc : TypeId × Value → H} {W : World} {fuel : Nat} {cs : List Value} {x : DataW H × List MemPlace},
    DataW.trod enc P W 0 (fun _ => true) true fuel t cs = some x → Light P t x.1 → ∃ y, d.K W y cs ∧ G y
theorem Opens.int {P : Program} {t : TypeId} {k : IntKind} (hu : P.underlying t = some (.int k)) (hc : P.cellsOf t = 1) : Opens P (Kd.int k) t (fun n => (Lit.int k n).wf = true) := by
  refine ⟨hc, fun h _ => ?_⟩
  obtain ⟨n, e1, e2, wf⟩ := DataW.trod_int hu h
  exact ⟨n, e1, wf⟩
theorem Opens.bool {P : Program} {t : TypeId} (hu : P.underlying t = some .bool) (hc : P.cellsOf t = 1) : Opens P Kd.bool t (fun _ => True) := by
  refine ⟨hc, fun {_ _ _ fuel cs _} h _ => ?_⟩
  cases fuel with
  | zero => simp [DataW.trod] at h
  | succ m =>
    unfold DataW.trod at h
    rw [hu] at h
    match cs, h with
    | [.bool b], _ => exact ⟨b, rfl, trivial⟩
theorem Opens.string {P : Program} {t : TypeId} (hu : P.underlying t = some .string) (hc : P.cellsOf t = 1) : Opens P Kd.string t (fun s => s.size ≤ 140737488351232) := by
  refine ⟨hc, fun h hl => ?_⟩
  obtain ⟨s, e1, e2, _⟩ := DataW.trod_string hu h
  refine ⟨s, e1, ?_⟩
  subst e2
  have := hl s.data.toList.length (by simp [DataW.weights])
  rw [data_length] at this
  exact this
theorem weightsAll_mem {H : Type} (P : Program) (e : TypeId) : ∀ (l : List (DataW H)) (d : DataW H), d ∈ l → ∀ x ∈ DataW.weights P e d, x ∈ DataW.weightsAll P e l
  | [], d, h, _, _ => by cases h
  | a :: l, d, h, x, hx => by
    rw [DataW.weightsAll]
    rcases List.mem_cons.1 h with rfl | h
    · exact List.mem_append_left _ hx
    · exact List.mem_append_right _ (weightsAll_mem P e l d h x hx)
theorem list_of {α : Type} {p : Nat → α → Prop} : ∀ n : Nat, (∀ i, i < n → ∃ y, p i y) → ∃ l : List α, l.length = n ∧ ∀ i y, l[i]? = some y → p i y
  | 0, _ => ⟨[], rfl, fun i y h => by simp at h⟩
  | n + 1, h => by
    obtain ⟨l, hl, hp⟩ := list_of n (fun i hi => h i (by omega))
    obtain ⟨y, hy⟩ := h n (by omega)
    refine ⟨l ++ [y], by simp [hl], fun i z hz => ?_⟩
    rcases Nat.lt_or_ge i n with hi | hi
    · rw [List.getElem?_append_left (by omega)] at hz
      exact hp i z hz
    · rw [List.getElem?_append_right (by omega), hl] at hz
      rcases Nat.eq_zero_or_pos (i - n) with h0 | h0
      · rw [h0] at hz
        obtain rfl : i = n := by omega
        obtain rfl : y = z := by simpa using hz
        exact hy
      · rw [List.getElem?_eq_none (by simp; omega)] at hz
        cases hz
theorem add_add (a : Addr) (i j : Nat) : (a.add i).add j = a.add (i + j) := by
  unfold Addr.add
  by_cases h1 : i = 0
  · subst h1; simp
  · by_cases h2 : j = 0
    · subst h2; simp [h1]
    · simp [h1, h2, Nat.add_assoc]
theorem cells_at {W : World} {base : Nat} {a : Addr} {n : Nat} {cs : List Value} (h : W.cells? base a n = some cs) : cs.length = n ∧ ∀ (i : Nat) u, cs[i]? = some u → W.cell? (a.add i) = some u := by
  obtain ⟨_, hn, hc⟩ := World.cells?_some h
  refine ⟨hn, fun i u hu => ?_⟩
  have hi : i < n := by
    rcases Nat.lt_or_ge i n with hi | hi
    · exact hi
    · rw [List.getElem?_eq_none (by omega)] at hu; cases hu
  rw [hc i hi, hu]
theorem Opens.slice {P : Program} {α : Type} {d : Kd α} {t e : TypeId} {G : α → Prop} (h : Opens P d e G) (hu : P.underlying t = some (.slice e)) (hc : P.cellsOf t = 1) {B : Nat} (hB : P.bytesOf e = B) :
    Opens P (Kd.slice e d) t (fun l => l.length * B ≤ 140737488351232 ∧ ∀ y ∈ l, G y) := by
  refine ⟨hc, fun {H enc W fuel cs x} hx hl => ?_⟩
  rcases Deep.open_slice hu hx with ⟨rfl, rfl⟩ | ⟨a, len, cap, m, n, D, Pl, rfl, _, hle, hm, hmm, rfl, hel⟩
  · exact ⟨[], ⟨none, 0, rfl, Nat.le_refl _, rfl, by simp, fun h => by simp at h⟩, by simp, fun y hy => by cases hy⟩
  · simp only [if_true] at hmm
    subst hmm
    have hw : (len + (m - len)) * B ≤ 140737488351232 := by
      have := hl ((len + (m - len)) * B) (by
        unfold DataW.weights
        simp only [hu, hB]
        simp)
      exact this
    have hget : ∀ i, i < len → ∃ y, (∃ c, c.length = d.sz ∧ d.K W y c ∧ ∀ j u, c[j]? = some u → W.cell? (a.add (i * d.sz + j)) = some u) ∧ G y := by
      intro i hi
      obtain ⟨cs', h1, h2⟩ := hel i (by omega)
      obtain ⟨y, hy, hg⟩ := h.open_ h2 (fun x hx => hl x (by
        unfold DataW.weights
        simp only [hu]
        refine List.mem_cons_of_mem _ (List.mem_append_left _ (weightsAll_mem P e _ (D i) ?_ x hx))
        exact List.mem_map.2 ⟨i, List.mem_range.2 hi, rfl⟩))
      obtain ⟨hn, hcell⟩ := cells_at h1
      refine ⟨y, ⟨cs', by rw [hn, h.cells], hy, fun j u hj => ?_⟩, hg⟩
      have := hcell j u hj
      rw [add_add, h.cells] at this
      exact this
    obtain ⟨l, hll, hat⟩ := list_of len hget
    refine ⟨l, ⟨some a, m, by rw [hll], by omega, rfl, by rw [hll]; unfold maxLen at hm; omega, fun _ => ⟨a, rfl, fun j p hj => (hat j p hj).1⟩⟩, ?_, fun y hy => ?_⟩
    · rw [hll]
      exact Nat.le_trans (Nat.mul_le_mul_right _ (by omega)) hw
    · obtain ⟨i, hi, rfl⟩ := List.mem_iff_getElem.1 hy
      exact (hat i _ (List.getElem?_eq_getElem hi)).2
theorem light_of {H : Type} {P : Program} {ts : List TypeId} {ds : List (DataW H)} (h : (DataW.weightsEach P ts ds).all (· ≤ reachBytes) = true) {j : Nat} {t : TypeId} {d : DataW H} (ht : ts[j]? = some t) (hd : ds[j]? = some d) : Light P t d := fun x hx => by
  have := List.all_eq_true.1 h x (DataW.weights_mem_each ht hd x hx)
  simpa using this
end Go.Proofs.YtakbnoelbmgmhaaDoorH
end
section
namespace Go.Proofs.YtakbnoelbmgmhaaDoorH
open Go
variable {H : Type} {enc : TypeId × Value → H}
theorem returns_and_shaped {a : Assume} {C : Checked} {os : Os} {f : FuncId} {fn : Func} {s : ChangeSpec} {conds : List PathCond} {apart fresh handsOn again : Bool} {X : World → Array Value → Prop}
    (hX : ∀ (w w' : World) (args : Array Value), w.heap = w'.heap → X w args → X w' args)
    (own : ownKnob C.prog.godebug = none) (started : os.Started) (noInit : C.prog.inits.idxOf? f = none) (hfn : C.prog.funcs[f]? = some fn)
    (witness : ∃ (w : World) (tape : Tape) (i : Input), w.os = os ∧ (w.forCall tape i).Shaped C.prog ∧ i.vars = [] ∧ Input.okWide C.prog (w.forCall tape i) .any w.heap.size f i ∧
      ((s.pre enc C.prog fn conds apart (w.forCall tape i).memory i.args ∧ X (w.forCall tape i).memory i.args) ∧ sizedMet enc C.prog fn (OpenSpec.ofChange s) apart (w.forCall tape i).memory i.args) ∧ a.holds C.prog (lone (Frame.enter C.prog f i.args .normal) [] (w.forCall tape i)))
    (contract : ∀ (W : World) (base : Nat) (args : Array Value) (ds gs : List (DataW H)) (before : List MemPlace),
      (∀ (j : Nat) t v, fn.params[j]? = some t → args[j]? = some v → Value.okWide C.prog W .any base t v) →
      DataW.Whole enc C.prog fn.params.toList s.vars apart W args.toList ds gs before →
      conds.all (PathCond.test C.prog ⟨fn.params.toList, ds, s.plain.varTypes C.prog, gs⟩) = true →
      (DataW.weightsEach C.prog (fn.params.toList ++ s.plain.varTypes C.prog) (ds ++ gs)).all (· ≤ reachBytes) = true → X W args →
      W.ShapedOpen C.prog →
      a.holds C.prog (lone (Frame.enter C.prog f args .normal) [] W) →
      Calls C.prog f args W fun e W' => ∃ v, e = .returned v ∧ s.post enc C.prog fn apart fresh handsOn again W args v W') :
    ReturnsInHanded a C os f .any (fun w args => (s.pre enc C.prog fn conds apart w args ∧ X w args) ∧ sizedMet enc C.prog fn (OpenSpec.ofChange s) apart w args) (s.post enc C.prog fn apart fresh handsOn again) := by
  refine returnsInHanded_of_calls own started noInit witness ?_
  intro w tape i _ hsh _ hok hpre hholds
  obtain ⟨_, _, _, fn', hfn', _, _, _, _, hval⟩ := hok
  have e : fn' = fn := Option.some.inj (hfn'.symm.trans hfn)
  subst e
  obtain ⟨⟨⟨ds, gs, before, hw, hc⟩, hx⟩, hz⟩ := hpre
  have hw' := DataW.Whole.of_heap (w' := w.forCall tape i) (by rfl) hw
  refine (contract (w.forCall tape i) w.heap.size i.args ds gs before hval hw' hc (hz.weights hw) (hX _ _ _ (by rfl) hx) hsh hholds).mono fun e W' ⟨v, he, hp⟩ => ?_
  subst he
  exact ChangeSpec.post_blind hp
end Go.Proofs.YtakbnoelbmgmhaaDoorH
end
