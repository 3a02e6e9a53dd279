import Derived.Test.YtmmbpbgcobmifaaGreatDoorZEnchunkBodyP0
import Derived.Test.YtmmbpbgcobmifaaGreatDoorZEnchunkBodyP2
import Derived.Test.YtmmbpbgcobmifaaGreatDoorZEnchunkBodyP1
import Derived.Test.YtmmbpbgcobmifaaGreatDoorProg
import Derived.Below
import Derived.Deep.Draws
import Derived.Deep.AppendLies
import Derived.Maps.AppendAt
import Derived.OwnWalk
import Derived.Laws.BytesArg
import Derived.Laws.MakeOwn
import Derived.Laws.OwnMore
import Derived.Deep.OwnRows
import Derived.Tactics
import Derived.Lib.ConvBytes
import Derived.Laws.Slices
import Derived.WalkKit
import Derived.KernelRfl
import Derived.RowKit3
import Derived.Deep.LoopGhost
import Derived.Deep.QuietTactic
import Derived.BigQuiet
import Derived.WideLaws
import Derived.Deep.DeepCutAuto
import Derived.Deep.CutBlock
import Derived.Deep.RegionHeld3
import Derived.Laws.Rows
import Derived.Lib.AppendStr
import Derived.ArgAppend
import Derived.Laws.IdiomCopy
import Derived.OrdersHeld
import Derived.Laws.BitsLemmas
import Derived.RowKit
import Derived.RangeFuncNested
import Derived.RangeFuncBound
import Derived.RangeFuncCalls
import Derived.RangeFuncBox
import Derived.OwnWalkIn
import Derived.Laws.EntriesVeiled
namespace Go.Proofs.YtmmbpbgcobmifaaGreatDoorH
end Go.Proofs.YtmmbpbgcobmifaaGreatDoorH
namespace Go.Proofs.YtmmbpbgcobmifaaGreatDoorW.PrintWords
end Go.Proofs.YtmmbpbgcobmifaaGreatDoorW.PrintWords
namespace Go.Proofs.YtmmbpbgcobmifaaGreatDoorW.PrintLast
end Go.Proofs.YtmmbpbgcobmifaaGreatDoorW.PrintLast
namespace Go.Proofs.YtmmbpbgcobmifaaGreatDoorW.PrintMore
end Go.Proofs.YtmmbpbgcobmifaaGreatDoorW.PrintMore
namespace Go.Proofs.YtmmbpbgcobmifaaGreatDoor.Pr
end Go.Proofs.YtmmbpbgcobmifaaGreatDoor.Pr
section
namespace Go.Proofs.YtmmbpbgcobmifaaGreatDoor.Pr
open Go.RowKit Go.Proofs.YtmmbpbgcobmifaaGreatDoorH Go.Proofs.YtmmbpbgcobmifaaGreatDoorW.PrintWords Go.Proofs.YtmmbpbgcobmifaaGreatDoorW.PrintLast Go.Proofs.YtmmbpbgcobmifaaGreatDoorW.PrintMore
attribute [local go_sem] max2_int min2_int max_two min_two max_three min_three max_four min_four   -- for this text's walks alone
set_option linter.unusedVariables false
set_option linter.unusedSimpArgs false
def errW : Option Int → Value
  | none => .nilIface
  | some c => .iface 0 (.int .i64 c)
theorem errW_none : errW none = .nilIface := rfl
theorem errW_some (c : Int) : errW (some c) = .iface 0 (.int .i64 c) := rfl
theorem info5 : (Tryz.prog.info? 5).map (fun i => (i.zero, i.size, i.bytes)) = some (some (.int .u8 0), 1, 1) := by kernel_rfl
theorem info28 : (Tryz.prog.info? 28).map (fun i => (i.zero, i.size, i.bytes)) = some (some (.agg #[(.string ⟨#[]⟩), (.string ⟨#[]⟩)]), 2, 32) := by kernel_rfl
structure S28 where
  f0 : ByteArray
  f1 : ByteArray
def z28 : S28 := ⟨(⟨#[]⟩ : ByteArray), (⟨#[]⟩ : ByteArray)⟩
def k28 : Kd S28 := Kd.iso (Kd.pair Kd.string Kd.string) (fun x : S28 => (x.f0, x.f1))
theorem k28_open {w : World} {x : S28} {cs : List Value} (h : k28.K w x cs) : cs = [.string x.f0, .string x.f1] := by
  obtain ⟨_, _, rfl, rfl, rfl⟩ := h
  exact rfl
theorem k28_mkM (w : World) (base : Nat) (ok : Nat → Prop) (x : S28)  : k28.M w base ok x [.string x.f0, .string x.f1] := ⟨[.string x.f0], [.string x.f1], rfl, rfl, rfl⟩
def rd_T28 (xs : List S28) (i : Int) : S28 := xs.getD i.toNat z28
theorem at_T28 {w : World} {A : Option Addr} {n : Nat} {xs : List S28} (h : Kd.C k28 w A n xs) (i : Int) (h0 : 0 ≤ i) (h1 : i < n) : ∃ ad , A = some ad ∧ w.cell? (ad.add (i.toNat * 2)) = some (.string (rd_T28 xs i).f0) ∧ w.cell? ⟨(ad.add (i.toNat * 2)).block, (ad.add (i.toNat * 2)).off + 1, none⟩ = some (.string (rd_T28 xs i).f1) := by
  obtain ⟨ad, c, e, _, hK, hc0⟩ := Kd.C_get h z28 i h0 h1
  have hc : ∀ j u, c[j]? = some u → w.cell? (ad.add (i.toNat * 2 + j)) = some u := hc0
  obtain rfl := k28_open hK
  exact ⟨ad, e, hc 0 _ rfl, by rw [← add_field _ _ 1 (by omega)]; exact hc 1 _ rfl⟩
def rd_L3 (xs : List (List Int)) (i : Int) : (List Int) := xs.getD i.toNat ([] : List Int)
theorem at_L3 {w : World} {A : Option Addr} {n : Nat} {xs : List (List Int)} (h : Kd.C (Kd.slice 5 (Kd.int .u8)) w A n xs) (i : Int) (h0 : 0 ≤ i) (h1 : i < n) : ∃ ad A0 c0, A = some ad ∧ w.cell? (ad.add i.toNat) = some (.slice A0 (rd_L3 xs i).length c0) ∧ (rd_L3 xs i).length ≤ c0 ∧ (Kd.int .u8).C w A0 (rd_L3 xs i).length (rd_L3 xs i) := by
  obtain ⟨ad, c, e, _, hK, hc0⟩ := Kd.C_get h ([] : List Int) i h0 h1
  have hc : ∀ j u, c[j]? = some u → w.cell? (ad.add (i.toNat * 1 + j)) = some u := hc0
  obtain ⟨A0, c0, rfl, l0, g0⟩ := hK
  exact ⟨ad, A0, c0, e, by have hq := hc 0 _ rfl; rwa [Nat.mul_one, Nat.add_zero] at hq, l0, g0⟩
end Go.Proofs.YtmmbpbgcobmifaaGreatDoor.Pr
end
section
namespace Go.Proofs.YtmmbpbgcobmifaaGreatDoor.Pr
open Go.RowKit Go.Proofs.YtmmbpbgcobmifaaGreatDoorH Go.Proofs.YtmmbpbgcobmifaaGreatDoorW.PrintWords Go.Proofs.YtmmbpbgcobmifaaGreatDoorW.PrintLast Go.Proofs.YtmmbpbgcobmifaaGreatDoorW.PrintMore
attribute [local go_sem] max2_int min2_int max_two min_two max_three min_three max_four min_four   -- for this text's walks alone
set_option linter.unusedVariables false
set_option linter.unusedSimpArgs false
def hexa_Digit.j0 : Nat → Int → Bool → Option (Int)
  | 0, _, _ => none
  | k + 1, x0, x3 => if x3 = true then (some ((x0 - 48) % 256)) else (if (Go.bits .or .u8 x0 32) ≥ 97 then (if (Go.bits .or .u8 x0 32) ≤ 102 then (some ((((Go.bits .or .u8 x0 32) - 97) % 256) + 10)) else (some (-1))) else (some (-1)))
def hexa_Digit.f (k : Nat) (a0 : Int) : Option (Int) := if a0 ≥ 48 then (hexa_Digit.j0 k a0 (decide (a0 ≤ 57))) else (hexa_Digit.j0 k a0 false)
theorem hexa_Digit.mono_l : ∀ k, (∀ y0 y1, LeO (hexa_Digit.j0 k y0 y1) (hexa_Digit.j0 (k + 1) y0 y1))
  | 0 => fun _ _ r h => by simp [hexa_Digit.j0] at h
  | k + 1 => by
    have ih0 := hexa_Digit.mono_l k
    · intro y0 y1
      unfold hexa_Digit.j0
      repeat' first
      | (with_reducible exact ih0 _ _)
      | (with_reducible exact LeO.refl _)
      | (with_reducible exact LeO.none _)
      | (with_reducible refine LeO.ite ?_ ?_)
      | (with_reducible refine LeO.bind ?_ (fun _ => ?_))
      | exact ih0 _ _
      | exact LeO.none _
      | refine LeO.ite ?_ ?_
      | refine LeO.bind ?_ (fun _ => ?_)
theorem hexa_Digit.mono : ∀ a0 k, LeO (hexa_Digit.f k a0) (hexa_Digit.f (k + 1) a0) := by
  intro a0 k
  have ih0 := hexa_Digit.mono_l k
  unfold hexa_Digit.f
  repeat' first
      | (with_reducible exact ih0 _ _)
      | (with_reducible exact LeO.refl _)
      | (with_reducible exact LeO.none _)
      | (with_reducible refine LeO.ite ?_ ?_)
      | (with_reducible refine LeO.bind ?_ (fun _ => ?_))
      | exact ih0 _ _
      | exact LeO.none _
      | refine LeO.ite ?_ ?_
      | refine LeO.bind ?_ (fun _ => ?_)
set_option maxHeartbeats 8000000 in
set_option maxRecDepth 100000 in
theorem hexa_Digit.calls (k : Nat) (a0 : Int) (r : Int) (w : World) (hG : TabOk w) (h : hexa_Digit.f k a0 = some r) :
    Calls Tryz.prog 57 #[.int .u8 a0] w fun e w' => e = .returned (.int .i64 r) ∧ Drawn0 w w' := by
  have H : (if a0 ≥ 48 then (hexa_Digit.j0 k a0 (decide (a0 ≤ 57))) else (hexa_Digit.j0 k a0 false)) = some r := h
  clear h
  have HC2 := Aside0.mk H
  clear H
  go_enter Tryz.func57, Tryz.ntmps57
  go_upto_region 1 with (fail)
  go_cut [3] (fun v3 wc => ∃ (kq : Nat) (x3_1 : Bool), v3 = .bool x3_1 ∧ Aside0 (hexa_Digit.j0 kq a0 x3_1 = some r) ∧ Aside0 (kq ≤ k) ∧ Drawn0 w wc)
  case first =>
    have H := HC2.out
    clear HC2
    by_cases c3 : a0 ≥ 48
    · rw [if_pos c3] at H
      have c3b0 : decide (48 ≤ a0) = true := decide_eq_true c3
      clear c3
      (first | rw [c3b0] | (simp only [i64_w, i32_w]; rw [c3b0]) | skip)
      have H' := Aside0.mk H
      clear H
      go_wp2
      go_meet
      case rel => exact ⟨_, (decide (a0 ≤ 57)), (by first | rfl | (simp; done) | (simp [*]; done)), H', ⟨by first | omega | exact Nat.le_refl _⟩, by repeat (first | exact Drawn0.refl _ | apply Drawn0.step)⟩
    · rw [if_neg c3] at H
      have c3b0 : decide (48 ≤ a0) = false := decide_eq_false c3
      clear c3
      (first | rw [c3b0] | (simp only [i64_w, i32_w]; rw [c3b0]) | skip)
      have H' := Aside0.mk H
      clear H
      go_wp2
      go_meet
      case rel => exact ⟨_, (false), (by first | rfl | (simp; done) | (simp [*]; done)), H', ⟨by first | omega | exact Nat.le_refl _⟩, by repeat (first | exact Drawn0.refl _ | apply Drawn0.step)⟩
  case rest =>
    clear HC2
    try clear p2
    try clear c3
    try clear c3b0
    obtain ⟨kq, x3_1, rfl, HA, HJ1, ⟨mc1, rfl⟩⟩ := hcut
    cases kq with
    | zero => exact absurd HA.out (by simp [hexa_Digit.j0])
    | succ kj1 =>
      have H := HA.out
      clear HA
      simp only [hexa_Digit.j0] at H
      by_cases c4 : x3_1 = true
      · subst c4
        have H1 : (some ((a0 - 48) % 256)) = some r := by rw [if_pos rfl] at H; exact H
        clear H
        have H := H1
        clear H1
        obtain rfl := Option.some.inj H
        go_wp2
        go_ret
        exact ⟨by first | rfl | (simp; done) | (simp [*]; done), by repeat (first | exact Drawn0.refl _ | apply Drawn0.step)⟩
      · replace c4 := Bool.eq_false_iff.mpr c4
        subst c4
        have H1 : (if (Go.bits .or .u8 a0 32) ≥ 97 then (if (Go.bits .or .u8 a0 32) ≤ 102 then (some ((((Go.bits .or .u8 a0 32) - 97) % 256) + 10)) else (some (-1))) else (some (-1))) = some r := by rw [if_neg (show ¬ (false = true) by decide)] at H; exact H
        clear H
        have H := H1
        clear H1
        by_cases c5 : (Go.bits .or .u8 a0 32) ≥ 97
        · rw [if_pos c5] at H
          have c5b0 : decide (97 ≤ (Go.bits .or .u8 a0 32)) = true := decide_eq_true c5
          clear c5
          by_cases c6 : (Go.bits .or .u8 a0 32) ≤ 102
          · rw [if_pos c6] at H
            have c6b0 : decide ((Go.bits .or .u8 a0 32) ≤ 102) = true := decide_eq_true c6
            clear c6
            obtain rfl := Option.some.inj H
            go_wp2
            go_ret
            exact ⟨by first | rfl | (simp; done) | (simp [*]; done), by repeat (first | exact Drawn0.refl _ | apply Drawn0.step)⟩
          · rw [if_neg c6] at H
            have c6b0 : decide ((Go.bits .or .u8 a0 32) ≤ 102) = false := decide_eq_false c6
            clear c6
            obtain rfl := Option.some.inj H
            go_wp2
            go_ret
            exact ⟨by first | rfl | (simp; done) | (simp [*]; done), by repeat (first | exact Drawn0.refl _ | apply Drawn0.step)⟩
        · rw [if_neg c5] at H
          have c5b0 : decide (97 ≤ (Go.bits .or .u8 a0 32)) = false := decide_eq_false c5
          clear c5
          obtain rfl := Option.some.inj H
          go_wp2
          go_ret
          exact ⟨by first | rfl | (simp; done) | (simp [*]; done), by repeat (first | exact Drawn0.refl _ | apply Drawn0.step)⟩
end Go.Proofs.YtmmbpbgcobmifaaGreatDoor.Pr
end
section
namespace Go.Proofs.YtmmbpbgcobmifaaGreatDoor.Pr
open Go.RowKit Go.Proofs.YtmmbpbgcobmifaaGreatDoorH Go.Proofs.YtmmbpbgcobmifaaGreatDoorW.PrintWords Go.Proofs.YtmmbpbgcobmifaaGreatDoorW.PrintLast Go.Proofs.YtmmbpbgcobmifaaGreatDoorW.PrintMore
attribute [local go_sem] max2_int min2_int max_two min_two max_three min_three max_four min_four   -- for this text's walks alone
set_option linter.unusedVariables false
set_option linter.unusedSimpArgs false
def hexa_More.f (k : Nat) (a0 : Int) (a1 : Int) : Option (Int × Int) := (hexa_Digit.f k a1).bind fun t122 => (if t122 < 0 then (some (0, 2)) else (if a0 > (IntKind.u64.wrap (Int.tdiv (IntKind.u64.wrap (4611686018427387903 - (IntKind.u64.wrap (t122)))) 16)) then (some (0, 3)) else (some (IntKind.u64.wrap ((IntKind.u64.wrap (16 * a0)) + (IntKind.u64.wrap (t122))), 0))))
theorem hexa_More.mono : ∀ a0 a1 k, LeO (hexa_More.f k a0 a1) (hexa_More.f (k + 1) a0 a1) := by
  intro a0 a1 k
  unfold hexa_More.f
  repeat' first
      | (with_reducible exact hexa_Digit.mono _ _)
      | (with_reducible exact LeO.refl _)
      | (with_reducible exact LeO.none _)
      | (with_reducible refine LeO.ite ?_ ?_)
      | (with_reducible refine LeO.bind ?_ (fun _ => ?_))
      | exact hexa_Digit.mono _ _
      | exact LeO.none _
      | refine LeO.ite ?_ ?_
      | refine LeO.bind ?_ (fun _ => ?_)
set_option maxHeartbeats 8000000 in
set_option maxRecDepth 100000 in
theorem hexa_More.calls (k : Nat) (a0 : Int) (a1 : Int) (r1 : Int) (r2 : Int) (w : World) (hG : TabOk w) (h : hexa_More.f k a0 a1 = some (r1, r2)) :
    Calls Tryz.prog 59 #[.int .u64 a0, .int .u8 a1] w fun e w' => e = .returned (.tuple #[.int .u64 r1, .int .i64 r2]) ∧ Drawn0 w w' := by
  have H : ((hexa_Digit.f k a1).bind fun t122 => (if t122 < 0 then (some (0, 2)) else (if a0 > (IntKind.u64.wrap (Int.tdiv (IntKind.u64.wrap (4611686018427387903 - (IntKind.u64.wrap (t122)))) 16)) then (some (0, 3)) else (some (IntKind.u64.wrap ((IntKind.u64.wrap (16 * a0)) + (IntKind.u64.wrap (t122))), 0))))) = some (r1, r2) := h
  clear h
  replace H := Option.bind_eq_some_iff.mp H
  obtain ⟨t122, A30, H⟩ := H
  replace H : (if t122 < 0 then (some (0, 2)) else (if a0 > (IntKind.u64.wrap (Int.tdiv (IntKind.u64.wrap (4611686018427387903 - (IntKind.u64.wrap (t122)))) 16)) then (some (0, 3)) else (some (IntKind.u64.wrap ((IntKind.u64.wrap (16 * a0)) + (IntKind.u64.wrap (t122))), 0)))) = some (r1, r2) := H
  have A3 := Aside0.mk A30
  clear A30
  by_cases c4 : t122 < 0
  · rw [if_pos c4] at H
    have c4b0 : decide (t122 < 0) = true := decide_eq_true c4
    clear c4
    simp only [Option.some.injEq, Prod.mk.injEq] at H
    obtain ⟨rfl, rfl⟩ := H
    go_enter Tryz.func59, Tryz.ntmps59
    go_wp2_with (first | ((with_reducible refine gate_callee (f := 57) rfl ?_); refine goesL_ (some 8) rfl rfl Tryz.func57 (by kernel_rfl) rfl #[.int .u8 a1] rfl (by (try simp only [List.map_toArray, List.map_cons, List.map_nil]); first | done | rfl | (simp only [List.length_drop, List.length_take]; rfl)) ?_; (with_reducible refine (hexa_Digit.calls k a1 t122 _ ?side1 A3.out).mono ?_); (case side1 => first | exact hG | exact TabOk.drewN hG _ | exact TabOk.drewN (TabOk.drewN hG _) _ | exact TabOk.below hG (by repeat (first | (with_reducible first | exact HB.out | apply below_alloc | apply pw_below_drewN | apply below_drew1) | exact HB.out))); rintro e w' ⟨rfl, ⟨nd, rfl⟩⟩; refine ⟨_, rfl, ?_⟩))
    go_ret2
    exact ⟨by first | rfl | (simp; done) | (simp [*]; done), by repeat (first | exact Drawn0.refl _ | apply Drawn0.step)⟩
  · rw [if_neg c4] at H
    have c4b0 : decide (t122 < 0) = false := decide_eq_false c4
    clear c4
    by_cases c5 : a0 > (IntKind.u64.wrap (Int.tdiv (IntKind.u64.wrap (4611686018427387903 - (IntKind.u64.wrap (t122)))) 16))
    · rw [if_pos c5] at H
      have c5b0 : decide ((IntKind.u64.wrap (Int.tdiv (IntKind.u64.wrap (4611686018427387903 - (IntKind.u64.wrap (t122)))) 16)) < a0) = true := decide_eq_true c5
      clear c5
      simp only [Option.some.injEq, Prod.mk.injEq] at H
      obtain ⟨rfl, rfl⟩ := H
      go_enter Tryz.func59, Tryz.ntmps59
      go_wp2_with (first | ((with_reducible refine gate_callee (f := 57) rfl ?_); refine goesL_ (some 8) rfl rfl Tryz.func57 (by kernel_rfl) rfl #[.int .u8 a1] rfl (by (try simp only [List.map_toArray, List.map_cons, List.map_nil]); first | done | rfl | (simp only [List.length_drop, List.length_take]; rfl)) ?_; (with_reducible refine (hexa_Digit.calls k a1 t122 _ ?side1 A3.out).mono ?_); (case side1 => first | exact hG | exact TabOk.drewN hG _ | exact TabOk.drewN (TabOk.drewN hG _) _ | exact TabOk.below hG (by repeat (first | (with_reducible first | exact HB.out | apply below_alloc | apply pw_below_drewN | apply below_drew1) | exact HB.out))); rintro e w' ⟨rfl, ⟨nd, rfl⟩⟩; refine ⟨_, rfl, ?_⟩))
      go_ret2
      exact ⟨by first | rfl | (simp; done) | (simp [*]; done), by repeat (first | exact Drawn0.refl _ | apply Drawn0.step)⟩
    · rw [if_neg c5] at H
      have c5b0 : decide ((IntKind.u64.wrap (Int.tdiv (IntKind.u64.wrap (4611686018427387903 - (IntKind.u64.wrap (t122)))) 16)) < a0) = false := decide_eq_false c5
      clear c5
      simp only [Option.some.injEq, Prod.mk.injEq] at H
      obtain ⟨rfl, rfl⟩ := H
      go_enter Tryz.func59, Tryz.ntmps59
      go_wp2_with (first | ((with_reducible refine gate_callee (f := 57) rfl ?_); refine goesL_ (some 8) rfl rfl Tryz.func57 (by kernel_rfl) rfl #[.int .u8 a1] rfl (by (try simp only [List.map_toArray, List.map_cons, List.map_nil]); first | done | rfl | (simp only [List.length_drop, List.length_take]; rfl)) ?_; (with_reducible refine (hexa_Digit.calls k a1 t122 _ ?side1 A3.out).mono ?_); (case side1 => first | exact hG | exact TabOk.drewN hG _ | exact TabOk.drewN (TabOk.drewN hG _) _ | exact TabOk.below hG (by repeat (first | (with_reducible first | exact HB.out | apply below_alloc | apply pw_below_drewN | apply below_drew1) | exact HB.out))); rintro e w' ⟨rfl, ⟨nd, rfl⟩⟩; refine ⟨_, rfl, ?_⟩))
      go_ret2
      exact ⟨by first | rfl | (simp; done) | (simp [*]; done), by repeat (first | exact Drawn0.refl _ | apply Drawn0.step)⟩
end Go.Proofs.YtmmbpbgcobmifaaGreatDoor.Pr
end
section
namespace Go.Proofs.YtmmbpbgcobmifaaGreatDoor.Pr
end Go.Proofs.YtmmbpbgcobmifaaGreatDoor.Pr
namespace Go.Proofs.YtmmbpbgcobmifaaGreatDoorH
open Go.RowKit Go.Proofs.YtmmbpbgcobmifaaGreatDoorW.PrintWords Go.Proofs.YtmmbpbgcobmifaaGreatDoorW.PrintLast Go.Proofs.YtmmbpbgcobmifaaGreatDoorW.PrintMore Go.Proofs.YtmmbpbgcobmifaaGreatDoor.Pr
def digI (c : Int) : Int := (hexa_Digit.f 5 c).getD (-1)
theorem digit_all : ∀ n : Fin 256, hexa_Digit.f 5 (n.val : Int) = some (digI n.val) ∧ -1 ≤ digI n.val ∧ digI n.val ≤ 15 := by decide +kernel
theorem digit_eq {c : Int} (h0 : 0 ≤ c) (h1 : c ≤ 255) : hexa_Digit.f 5 c = some (digI c) ∧ -1 ≤ digI c ∧ digI c ≤ 15 := by
  have h := digit_all ⟨c.toNat, by omega⟩
  rw [show ((⟨c.toNat, by omega⟩ : Fin 256).val : Int) = c by show (c.toNat : Int) = c; omega] at h
  exact h
theorem more_eq {c : Int} (n : Nat) (h0 : 0 ≤ c) (h1 : c ≤ 255) (hd : 0 ≤ digI c) (hn : n ≤ 4611686018427387903) : hexa_More.f 5 (n : Int) c = some (if n ≤ (4611686018427387903 - (digI c).toNat) / 16 then (((16 * n + (digI c).toNat : Nat) : Int), 0) else (0, 3)) := by
  have h := digit_eq h0 h1
  obtain ⟨d, hdd⟩ := Int.eq_ofNat_of_zero_le hd
  unfold hexa_More.f
  rw [h.1, Option.bind_some, hdd, if_neg (by omega)]
  rw [hdd] at h
  have hd15 : d ≤ 15 := by omega
  have e1 : IntKind.u64.wrap ((d : Nat) : Int) = (d : Int) := by rw [IntKind.wrap_u64]; omega
  have e2 : IntKind.u64.wrap (4611686018427387903 - (d : Int)) = ((4611686018427387903 - d : Nat) : Int) := by rw [IntKind.wrap_u64]; omega
  have e3 : Int.tdiv ((4611686018427387903 - d : Nat) : Int) 16 = (((4611686018427387903 - d) / 16 : Nat) : Int) := by rw [Int.tdiv_eq_ediv_of_nonneg (by omega)]; omega
  have e4 : IntKind.u64.wrap (((4611686018427387903 - d) / 16 : Nat) : Int) = (((4611686018427387903 - d) / 16 : Nat) : Int) := by rw [IntKind.wrap_u64]; omega
  rw [e1, e2, e3, e4, Int.toNat_natCast]
  by_cases hle : n ≤ (4611686018427387903 - d) / 16
  · have e5 : IntKind.u64.wrap (16 * (n : Int)) = ((16 * n : Nat) : Int) := by rw [IntKind.wrap_u64]; omega
    have e6 : IntKind.u64.wrap (((16 * n : Nat) : Int) + (d : Int)) = ((16 * n + d : Nat) : Int) := by rw [IntKind.wrap_u64]; omega
    rw [if_neg (by omega), if_pos hle, e5, e6]
  · rw [if_pos (by omega), if_neg hle]
def sizeL : Nat → List Int → Nat → Nat → Nat → Except (Nat × Int) (Nat × Nat)
  | 0, _, a, _, _ => .error (a, 4)
  | f + 1, s, a, n, g =>
    if a < s.length then (if digI (s.getD a 0) < 0 then (if 0 < g then .ok (n, a) else .error (a, 2))
      else if g < 16 ∧ n ≤ (4611686018427387903 - (digI (s.getD a 0)).toNat) / 16 then sizeL f s (a + 1) (16 * n + (digI (s.getD a 0)).toNat) (g + 1) else .error (a, 3))
    else .error (a, 4)
def sizeM (s : List Int) (a : Nat) : Except (Nat × Int) (Nat × Nat) := sizeL (s.length - a + 1) s a 0 0
end Go.Proofs.YtmmbpbgcobmifaaGreatDoorH
end
section
namespace Go.Proofs.YtmmbpbgcobmifaaGreatDoor.Pr
end Go.Proofs.YtmmbpbgcobmifaaGreatDoor.Pr
namespace Go.Proofs.YtmmbpbgcobmifaaGreatDoorH
open Go.RowKit Go.Proofs.YtmmbpbgcobmifaaGreatDoorW.PrintWords Go.Proofs.YtmmbpbgcobmifaaGreatDoorW.PrintLast Go.Proofs.YtmmbpbgcobmifaaGreatDoorW.PrintMore Go.Proofs.YtmmbpbgcobmifaaGreatDoor.Pr
theorem byteL_getD {s : List Int} (h : ByteL s) {a : Nat} (ha : a < s.length) : 0 ≤ s.getD a 0 ∧ s.getD a 0 ≤ 255 := by
  rw [List.getD_eq_getElem?_getD, List.getElem?_eq_getElem ha]
  exact h _ (List.getElem_mem ha)
set_option maxHeartbeats 8000000 in
set_option maxRecDepth 100000 in
theorem size_does (b : Nat) (A : Option Addr) (c : Nat) (e0 e1 e2 : Int) (a0 : Nat) (dv : Value) (s : List Int) (w : World) (h : IsR w b A s.length c e0 e1 e2 a0 dv) (hC : Keeps b w fun W => Kd.C (Kd.int .u8) W A s.length s ∧ TabOk W) (hs : ByteL s) (hl : s.length ≤ 1073741824) (ha0 : a0 ≤ s.length) :
    Calls Tryz.prog 47 #[.pointer (some ⟨b, 0, none⟩)] w (Does w b A s.length c e0 e1 e2 dv (fun n : Nat => .int .u64 (n : Int)) (sizeM s a0)) := by
  have HK := Aside0.mk hC
  have HS := Aside0.mk hs
  have HI := Aside0.mk h
  clear hC hs h
  go_enter Tryz.func47, Tryz.ntmps47
  go_wp2_with fail
  go_loopw [3, 4] (fun u3 u4 wr => ∃ f a n g : Nat, u3 = .int .u64 (n : Int) ∧ u4 = .int .i64 (g : Int) ∧ s.length - a < f ∧ a ≤ s.length ∧ g ≤ 16 ∧ n ≤ 4611686018427387903 ∧ Aside0 (sizeL f s a n g = sizeM s a0) ∧ Aside0 (IsR wr b A s.length c e0 e1 e2 a dv) ∧ Aside0 (Only b w wr)) (fun _ u4 _ => 16 - (intOf u4).toNat)
  case atStart => exact ⟨s.length - a0 + 1, a0, 0, 0, rfl, rfl, by omega, ha0, by omega, by omega, ⟨rfl⟩, HI, ⟨Only.refl _ _⟩⟩
  case round =>
    obtain ⟨f, a, n, g, rfl, rfl, hf, ha, hg, hn, he, hi, ho⟩ := hrel
    obtain ⟨f, rfl⟩ : ∃ m, f = m + 1 := ⟨f - 1, by omega⟩
    by_cases hlt : a < s.length
    · have hby := byteL_getD HS.out hlt
      have hdg := digit_eq hby.1 hby.2
      have hh := here_on b A _ c e0 e1 e2 a dv s wr hi.out (HK.out wr ho.out.1).1 hlt
      have HE := Aside0.mk he.out
      rw [sizeL, if_pos hlt] at HE
      have HH := Aside0.mk (fun w2 (hd : Drawn0 wr w2) => here_on b A _ c e0 e1 e2 a dv s w2 (hi.out.below hd.below) (HK.out w2 (ho.out.trans (Only.drawn hd (Nat.le_of_lt hi.out.lt))).1).1 hlt)
      have HDG := Aside0.mk (fun w2 (hd : Drawn0 wr w2) => hexa_Digit.calls 5 (s.getD a 0) _ w2 (HK.out w2 (ho.out.trans (Only.drawn hd (Nat.le_of_lt hi.out.lt))).1).2 hdg.1)
      have hdr := hdg.2
      clear hdg he
      generalize hx : s.getD a 0 = x at *
      by_cases hneg : digI x < 0
      · have hneg' : ¬ (0 : Int) ≤ digI x := by omega
        rw [if_pos hneg] at HE
        go_wp2_with fail
        refine hh.mono ?_
        rintro e w2 ⟨rfl, hd⟩
        have HD := Aside0.mk hd
        have h2 := HDG.out w2 hd
        clear hh hd
        go_wp2_with fail
        refine h2.mono ?_
        rintro e w3 ⟨rfl, hd3⟩
        have hdr3 : Drawn0 wr w3 := by
          obtain ⟨k, rfl⟩ := hd3.out
          exact HD.out.step k
        have HI3 := Aside0.mk (hi.out.below hdr3.below)
        have HO3 := Aside0.mk (ho.out.trans (Only.drawn hdr3 (Nat.le_of_lt hi.out.lt)))
        clear h2 hd3 hdr3
        by_cases hg0 : 0 < g
        · have hg0' : (0 : Int) < (g : Int) := by omega
          rw [if_pos hg0] at HE
          go_wp2_with fail
          refine (must_on b 2 w3).mono ?_
          rintro e w4 ⟨rfl, rfl⟩
          go_wp2
          go_ret
          show Does w b A s.length c e0 e1 e2 dv (fun n : Nat => Value.int .u64 (n : Int)) (sizeM s a0) _ _
          rw [← HE.out]
          exact ⟨rfl, HI3.out, HO3.out⟩
        · have hg0' : ¬ (0 : Int) < (g : Int) := by omega
          have hg0'' : decide ((0 : Int) < (g : Int)) = false := decide_eq_false hg0'
          rw [if_neg hg0] at HE
          go_wp2_with fail
          refine (must_off b a 2 w3 HI3.out.c4).mono ?_
          rintro e w4 ⟨rfl, rfl⟩
          refine ⟨rfl, ?_⟩
          show Does w b A s.length c e0 e1 e2 dv (fun n : Nat => Value.int .u64 (n : Int)) (sizeM s a0) _ _
          rw [← HE.out]
          exact ⟨rfl, HI3.out, HO3.out⟩
      · have hneg' : (0 : Int) ≤ digI x := by omega
        rw [if_neg hneg] at HE
        have hmore := more_eq n hby.1 hby.2 hneg' hn
        go_wp2_with fail
        refine hh.mono ?_
        rintro e w2 ⟨rfl, hd⟩
        have HD := Aside0.mk hd
        have h2 := HDG.out w2 hd
        clear hh hd
        go_wp2_with fail
        refine h2.mono ?_
        rintro e w3 ⟨rfl, hd3⟩
        have hdr3 : Drawn0 wr w3 := by
          obtain ⟨k, rfl⟩ := hd3.out
          exact HD.out.step k
        have HD3 := Aside0.mk hdr3
        have h4 := HH.out w3 hdr3
        clear h2 hd3 hdr3
        go_wp2_with fail
        refine h4.mono ?_
        rintro e w4 ⟨rfl, hd4⟩
        have hdr4 : Drawn0 wr w4 := by
          obtain ⟨k, rfl⟩ := hd4.out
          exact HD3.out.step k
        have HD4 := Aside0.mk hdr4
        have hTB := (HK.out w4 (ho.out.trans (Only.drawn hdr4 (Nat.le_of_lt hi.out.lt))).1).2
        clear h4 hd4 hdr4
        by_cases hle : n ≤ (4611686018427387903 - (digI x).toNat) / 16
        · rw [if_pos hle] at hmore
          have h5 := hexa_More.calls 5 (n : Int) x _ _ w4 hTB hmore
          obtain ⟨n2, hn2⟩ : ∃ n2, 16 * n + (digI x).toNat = n2 := ⟨_, rfl⟩
          rw [hn2] at h5 HE
          have hn2le : n2 ≤ 4611686018427387903 := by omega
          clear hmore
          go_wp2_with fail
          refine h5.mono ?_
          rintro e w5 ⟨rfl, hd5⟩
          have hdr5 : Drawn0 wr w5 := by
            obtain ⟨k, rfl⟩ := hd5.out
            exact HD4.out.step k
          have HI5 := Aside0.mk (hi.out.below hdr5.below)
          have HO5 := Aside0.mk (ho.out.trans (Only.drawn hdr5 (Nat.le_of_lt hi.out.lt)))
          clear h5 hd5 hdr5
          by_cases hg16 : g < 16
          · have hg16' : (g : Int) < 16 := by omega
            rw [if_pos ⟨hg16, hle⟩] at HE
            have c4 := HI5.out.c4
            have z4 := HI5.out.fz 4
            have hw1 : IntKind.i64.wrap ((a : Int) + 1) = ((a + 1 : Nat) : Int) := by
              unfold IntKind.wrap
              simp [IntKind.bits, IntKind.signed]
              omega
            have hw2 : IntKind.i64.wrap ((g : Int) + 1) = (g : Int) + 1 := by
              unfold IntKind.wrap
              simp [IntKind.bits, IntKind.signed]
              omega
            obtain ⟨m, hm⟩ : ∃ m, a + 1 = m := ⟨_, rfl⟩
            rw [hm] at hw1 HE
            go_wp2_with fail
            refine (must_on b 3 w5).mono ?_
            rintro e w6 ⟨rfl, rfl⟩
            go_wp2
            go_roundw
            case rel => exact ⟨f, m, n2, g + 1, rfl, by simp, by omega, by omega, by omega, hn2le, HE, ⟨HI5.out.s4 m⟩, ⟨HO5.out.trans (Only.set _ 4 _)⟩⟩
            case measure => simp [intOf]; omega
          · have hg16' : ¬ (g : Int) < 16 := by omega
            rw [if_neg (fun h => hg16 h.1)] at HE
            go_wp2_with fail
            refine (must_off b a 3 w5 HI5.out.c4).mono ?_
            rintro e w6 ⟨rfl, rfl⟩
            refine ⟨rfl, ?_⟩
            show Does w b A s.length c e0 e1 e2 dv (fun n : Nat => Value.int .u64 (n : Int)) (sizeM s a0) _ _
            rw [← HE.out]
            exact ⟨rfl, HI5.out, HO5.out⟩
        · rw [if_neg hle] at hmore
          have h5 := hexa_More.calls 5 (n : Int) x _ _ w4 hTB hmore
          clear hmore
          rw [if_neg (fun h => hle h.2)] at HE
          go_wp2_with fail
          refine h5.mono ?_
          rintro e w5 ⟨rfl, hd5⟩
          have hdr5 : Drawn0 wr w5 := by
            obtain ⟨k, rfl⟩ := hd5.out
            exact HD4.out.step k
          have HI5 := Aside0.mk (hi.out.below hdr5.below)
          have HO5 := Aside0.mk (ho.out.trans (Only.drawn hdr5 (Nat.le_of_lt hi.out.lt)))
          clear h5 hd5 hdr5
          by_cases hg16 : g < 16
          · have hg16' : (g : Int) < 16 := by omega
            go_wp2_with fail
            refine (must_off b a 3 w5 HI5.out.c4).mono ?_
            rintro e w6 ⟨rfl, rfl⟩
            refine ⟨rfl, ?_⟩
            show Does w b A s.length c e0 e1 e2 dv (fun n : Nat => Value.int .u64 (n : Int)) (sizeM s a0) _ _
            rw [← HE.out]
            exact ⟨rfl, HI5.out, HO5.out⟩
          · have hg16' : ¬ (g : Int) < 16 := by omega
            go_wp2_with fail
            refine (must_off b a 3 w5 HI5.out.c4).mono ?_
            rintro e w6 ⟨rfl, rfl⟩
            refine ⟨rfl, ?_⟩
            show Does w b A s.length c e0 e1 e2 dv (fun n : Nat => Value.int .u64 (n : Int)) (sizeM s a0) _ _
            rw [← HE.out]
            exact ⟨rfl, HI5.out, HO5.out⟩
    · rw [sizeL, if_neg hlt] at he
      have hh := here_off b A _ c e0 e1 e2 a dv wr hi.out (by omega)
      go_wp2_with fail
      refine hh.mono ?_
      rintro e w2 ⟨rfl, hd⟩
      refine ⟨rfl, ?_⟩
      show Does w b A s.length c e0 e1 e2 dv (fun n : Nat => Value.int .u64 (n : Int)) (sizeM s a0) _ _
      rw [← he.out]
      exact ⟨rfl, hi.out.below hd.below, ho.out.trans (Only.drawn hd (Nat.le_of_lt hi.out.lt))⟩
end Go.Proofs.YtmmbpbgcobmifaaGreatDoorH
end
section
namespace Go.Proofs.YtmmbpbgcobmifaaGreatDoor.Pr
end Go.Proofs.YtmmbpbgcobmifaaGreatDoor.Pr
namespace Go.Proofs.YtmmbpbgcobmifaaGreatDoorH
open Go.RowKit Go.Proofs.YtmmbpbgcobmifaaGreatDoorW.PrintWords Go.Proofs.YtmmbpbgcobmifaaGreatDoorW.PrintLast Go.Proofs.YtmmbpbgcobmifaaGreatDoorW.PrintMore Go.Proofs.YtmmbpbgcobmifaaGreatDoor.Pr
def textB (x : Int) : Bool := allB textI (strOfNums ([x] : List Int))
theorem textB_eq (x : Int) : octet_Text.f (strOfNums ([x] : List Int)) = some (textB x) := by
  unfold octet_Text.f textB
  rw [if_pos (by rw [show (strOfNums ([x] : List Int)).size = 1 from rfl]; omega)]
def extL : Nat → List Int → Int → Nat → Nat → RM Unit
  | 0, _, _, a, _ => .ok ((), a)
  | f + 1, s, e0, a, n => if a < s.length then (if textB (s.getD a 0) = true then (if (n : Int) ≤ e0 then extL f s e0 (a + 1) (n + 1) else .error (a, 5)) else .ok ((), a)) else .error (a, 4)
def extM (s : List Int) (e0 : Int) (a : Nat) : RM Unit := if a < s.length then (if s.getD a 0 = 59 then extL (s.length - a + 1) s e0 a 1 else .ok ((), a)) else .error (a, 4)
section
variable {W : World} {b : Nat} {A : Option Addr} {n c : Nat} {e0 e1 e2 : Int} {at_ : Nat} {dv : Value}
theorem IsR.c2 (h : IsR W b A n c e0 e1 e2 at_ dv) : W.cell? ⟨b, 2, none⟩ = some (.int .i64 e1) := (blk_cell h 2).trans rfl
theorem IsR.c3 (h : IsR W b A n c e0 e1 e2 at_ dv) : W.cell? ⟨b, 3, none⟩ = some (.int .i64 e2) := (blk_cell h 3).trans rfl
end
set_option maxHeartbeats 8000000 in
set_option maxRecDepth 100000 in
theorem ext_does (b : Nat) (A : Option Addr) (c : Nat) (e0 e1 e2 : Int) (a0 : Nat) (dv : Value) (s : List Int) (w : World) (h : IsR w b A s.length c e0 e1 e2 a0 dv) (hC : Keeps b w fun W => Kd.C (Kd.int .u8) W A s.length s ∧ TabOk W) (hs : ByteL s) (hl : s.length ≤ 1073741824) (ha0 : a0 ≤ s.length) :
    Calls Tryz.prog 48 #[.pointer (some ⟨b, 0, none⟩)] w (Does w b A s.length c e0 e1 e2 dv (fun _ : Unit => .tuple #[]) (extM s e0 a0)) := by
  have HK := Aside0.mk hC
  have HS := Aside0.mk hs
  have HI := Aside0.mk h
  by_cases hlt0 : a0 < s.length
  · have hh0 := here_on b A _ c e0 e1 e2 a0 dv s w h hC.here.1 hlt0
    by_cases h59 : s.getD a0 0 = 59
    · have hM : extL (s.length - a0 + 1) s e0 a0 1 = extM s e0 a0 := by
        unfold extM
        rw [if_pos hlt0, if_pos h59]
      rw [h59] at hh0
      have HM := Aside0.mk hM
      clear hC hs h hM h59
      go_enter Tryz.func48, Tryz.ntmps48
      go_wp2_with fail
      refine hh0.mono ?_
      rintro e w1 ⟨rfl, hd⟩
      have HI1 := Aside0.mk (HI.out.below hd.below)
      have HO1 := Aside0.mk (Only.drawn hd (Nat.le_of_lt HI.out.lt))
      clear hh0 hd
      go_wp2_with fail
      go_loopw [2] (fun u2 wr => ∃ f a n : Nat, u2 = .int .i64 (n : Int) ∧ s.length - a < f ∧ a ≤ s.length ∧ n + a0 = a + 1 ∧ Aside0 (extL f s e0 a n = extM s e0 a0) ∧ Aside0 (IsR wr b A s.length c e0 e1 e2 a dv) ∧ Aside0 (Only b w wr)) (fun u2 _ => s.length + 2 - (intOf u2).toNat)
      case atStart => exact ⟨s.length - a0 + 1, a0, 1, rfl, by omega, ha0, by omega, HM, HI1, HO1⟩
      case round =>
        obtain ⟨f, a, n, rfl, hf, ha, hn, he, hi, ho⟩ := hrel
        obtain ⟨f, rfl⟩ : ∃ m, f = m + 1 := ⟨f - 1, by omega⟩
        by_cases hlt : a < s.length
        · have hh := here_on b A _ c e0 e1 e2 a dv s wr hi.out (HK.out wr ho.out.1).1 hlt
          have HE := Aside0.mk he.out
          rw [extL, if_pos hlt] at HE
          have hT := textB_eq (s.getD a 0)
          clear he
          generalize hx : s.getD a 0 = x at *
          cases hb : textB x with
          | false =>
            rw [hb] at HE hT
            rw [if_neg (by simp)] at HE
            have HT := Aside0.mk (fun w2 hg => octet_Text.calls _ _ w2 hg hT)
            clear hT
            go_wp2_with fail
            refine hh.mono ?_
            rintro e w2 ⟨rfl, hd⟩
            have HI2 := Aside0.mk (hi.out.below hd.below)
            have HO2 := Aside0.mk (ho.out.trans (Only.drawn hd (Nat.le_of_lt hi.out.lt)))
            clear hh hd
            go_wp2_with ((with_reducible refine gate_dst (N := 8) rfl ?_); refine Kd.R_lit (Kd.int .u8) _ 5 ?hg (N := 8) ?hd (xs := ([x] : List Int)) (inner := [.int .u8 x]) (ok := fun _ => True) (okp := fun _ => True) ?hr ?hp (fun _ hk => hk) trivial (Below.refl _ _) (Nat.le_refl _) (by simp) ?_; (case hd => rfl); (case hg => rfl); (case hr => first | (go_simp; done) | (go_simp; rfl)); (case hp => exact (Reps.one (show Kd.M (Kd.int .u8) _ _ _ x [.int .u8 x] from rfl) (Reps.none _ _))); intro v3 w3 ho3 hb3 hg_ hnew_; clear hg_ hnew_; have hcv := own_string (P := Tryz.prog) Tryz.underlying25 Tryz.underlying5 Tryz.underlying9 (Kd.own_of_R ho3); have HI3 := Aside0.mk (HI2.out.below hb3); have HO3 := Aside0.mk (HO2.out.trans (Only.of_below hb3 (Nat.le_of_lt HI2.out.lt))); clear hb3 ho3)
            refine (HT.out w3 (HK.out w3 HO3.out.1).2).mono ?_
            rintro e w4 ⟨rfl, hb4⟩
            have HI4 := Aside0.mk (HI3.out.below hb4)
            have HO4 := Aside0.mk (HO3.out.trans (Only.of_below hb4 (Nat.le_of_lt HI3.out.lt)))
            clear hb4
            go_wp2
            go_end0
            show Does w b A s.length c e0 e1 e2 dv (fun _ : Unit => .tuple #[]) (extM s e0 a0) _ _
            rw [← HE.out]
            exact ⟨rfl, HI4.out, HO4.out⟩
          | true =>
            rw [hb] at HE hT
            rw [if_pos rfl] at HE
            have HT := Aside0.mk (fun w2 hg => octet_Text.calls _ _ w2 hg hT)
            clear hT
            by_cases hle : (n : Int) ≤ e0
            · rw [if_pos hle] at HE
              go_wp2_with fail
              refine hh.mono ?_
              rintro e w2 ⟨rfl, hd⟩
              have HI2 := Aside0.mk (hi.out.below hd.below)
              have HO2 := Aside0.mk (ho.out.trans (Only.drawn hd (Nat.le_of_lt hi.out.lt)))
              clear hh hd
              go_wp2_with ((with_reducible refine gate_dst (N := 8) rfl ?_); refine Kd.R_lit (Kd.int .u8) _ 5 ?hg (N := 8) ?hd (xs := ([x] : List Int)) (inner := [.int .u8 x]) (ok := fun _ => True) (okp := fun _ => True) ?hr ?hp (fun _ hk => hk) trivial (Below.refl _ _) (Nat.le_refl _) (by simp) ?_; (case hd => rfl); (case hg => rfl); (case hr => first | (go_simp; done) | (go_simp; rfl)); (case hp => exact (Reps.one (show Kd.M (Kd.int .u8) _ _ _ x [.int .u8 x] from rfl) (Reps.none _ _))); intro v3 w3 ho3 hb3 hg_ hnew_; clear hg_ hnew_; have hcv := own_string (P := Tryz.prog) Tryz.underlying25 Tryz.underlying5 Tryz.underlying9 (Kd.own_of_R ho3); have HI3 := Aside0.mk (HI2.out.below hb3); have HO3 := Aside0.mk (HO2.out.trans (Only.of_below hb3 (Nat.le_of_lt HI2.out.lt))); clear hb3 ho3)
              refine (HT.out w3 (HK.out w3 HO3.out.1).2).mono ?_
              rintro e w4 ⟨rfl, hb4⟩
              have HI4 := Aside0.mk (HI3.out.below hb4)
              have HO4 := Aside0.mk (HO3.out.trans (Only.of_below hb4 (Nat.le_of_lt HI3.out.lt)))
              clear hb4
              have c1 := HI4.out.c1
              have c4 := HI4.out.c4
              have z4 := HI4.out.fz 4
              have hw1 : IntKind.i64.wrap ((a : Int) + 1) = ((a + 1 : Nat) : Int) := by
                unfold IntKind.wrap
                simp [IntKind.bits, IntKind.signed]
                omega
              have hw2 : IntKind.i64.wrap ((n : Int) + 1) = (n : Int) + 1 := by
                unfold IntKind.wrap
                simp [IntKind.bits, IntKind.signed]
                omega
              obtain ⟨m, hm⟩ : ∃ m, a + 1 = m := ⟨_, rfl⟩
              rw [hm] at hw1 HE
              go_wp2_with fail
              refine (must_on b 5 w4).mono ?_
              rintro e w6 ⟨rfl, rfl⟩
              go_wp2
              go_roundw
              case rel => exact ⟨f, m, n + 1, by simp, by omega, by omega, by omega, HE, ⟨HI4.out.s4 m⟩, ⟨HO4.out.trans (Only.set _ 4 _)⟩⟩
              case measure => simp [intOf]; omega
            · have hle' : decide ((n : Int) ≤ e0) = false := decide_eq_false hle
              rw [if_neg hle] at HE
              go_wp2_with fail
              refine hh.mono ?_
              rintro e w2 ⟨rfl, hd⟩
              have HI2 := Aside0.mk (hi.out.below hd.below)
              have HO2 := Aside0.mk (ho.out.trans (Only.drawn hd (Nat.le_of_lt hi.out.lt)))
              clear hh hd
              go_wp2_with ((with_reducible refine gate_dst (N := 8) rfl ?_); refine Kd.R_lit (Kd.int .u8) _ 5 ?hg (N := 8) ?hd (xs := ([x] : List Int)) (inner := [.int .u8 x]) (ok := fun _ => True) (okp := fun _ => True) ?hr ?hp (fun _ hk => hk) trivial (Below.refl _ _) (Nat.le_refl _) (by simp) ?_; (case hd => rfl); (case hg => rfl); (case hr => first | (go_simp; done) | (go_simp; rfl)); (case hp => exact (Reps.one (show Kd.M (Kd.int .u8) _ _ _ x [.int .u8 x] from rfl) (Reps.none _ _))); intro v3 w3 ho3 hb3 hg_ hnew_; clear hg_ hnew_; have hcv := own_string (P := Tryz.prog) Tryz.underlying25 Tryz.underlying5 Tryz.underlying9 (Kd.own_of_R ho3); have HI3 := Aside0.mk (HI2.out.below hb3); have HO3 := Aside0.mk (HO2.out.trans (Only.of_below hb3 (Nat.le_of_lt HI2.out.lt))); clear hb3 ho3)
              refine (HT.out w3 (HK.out w3 HO3.out.1).2).mono ?_
              rintro e w4 ⟨rfl, hb4⟩
              have HI4 := Aside0.mk (HI3.out.below hb4)
              have HO4 := Aside0.mk (HO3.out.trans (Only.of_below hb4 (Nat.le_of_lt HI3.out.lt)))
              clear hb4
              have c1 := HI4.out.c1
              have HMO := Aside0.mk (must_off b a 5 w4 HI4.out.c4)
              go_wp2_with fail
              refine HMO.out.mono ?_
              rintro e w6 ⟨rfl, rfl⟩
              refine ⟨rfl, ?_⟩
              show Does w b A s.length c e0 e1 e2 dv (fun _ : Unit => .tuple #[]) (extM s e0 a0) _ _
              rw [← HE.out]
              exact ⟨rfl, HI4.out, HO4.out⟩
        · rw [extL, if_neg hlt] at he
          have hh := here_off b A _ c e0 e1 e2 a dv wr hi.out (by omega)
          go_wp2_with fail
          refine hh.mono ?_
          rintro e w2 ⟨rfl, hd⟩
          refine ⟨rfl, ?_⟩
          show Does w b A s.length c e0 e1 e2 dv (fun _ : Unit => .tuple #[]) (extM s e0 a0) _ _
          rw [← he.out]
          exact ⟨rfl, hi.out.below hd.below, ho.out.trans (Only.drawn hd (Nat.le_of_lt hi.out.lt))⟩
    · have hM : extM s e0 a0 = .ok ((), a0) := by
        unfold extM
        rw [if_pos hlt0, if_neg h59]
      have hne : (s.getD a0 0 != 59) = true := bne_iff_ne.mpr h59
      rw [hM]
      generalize s.getD a0 0 = x at *
      clear hC hs h hM h59
      go_enter Tryz.func48, Tryz.ntmps48
      go_wp2_with fail
      refine hh0.mono ?_
      rintro e w1 ⟨rfl, hd⟩
      have HI1 := Aside0.mk (HI.out.below hd.below)
      have HO1 := Aside0.mk (Only.drawn hd (Nat.le_of_lt HI.out.lt))
      clear hh0 hd
      go_wp2
      first | go_ret | go_end0
      exact ⟨rfl, HI1.out, HO1.out⟩
  · have hM : extM s e0 a0 = .error (a0, 4) := by
      unfold extM
      rw [if_neg hlt0]
    rw [hM]
    have hh := here_off b A _ c e0 e1 e2 a0 dv w h (by omega)
    clear hC hs h hM
    go_enter Tryz.func48, Tryz.ntmps48
    go_wp2_with fail
    refine hh.mono ?_
    rintro e w2 ⟨rfl, hd⟩
    exact ⟨rfl, rfl, HI.out.below hd.below, Only.drawn hd (Nat.le_of_lt HI.out.lt)⟩
end Go.Proofs.YtmmbpbgcobmifaaGreatDoorH
end
section
namespace Go.Proofs.YtmmbpbgcobmifaaGreatDoorH
open Go Go.RowKit
theorem room_none {F : Fence} (hd : F.depth = none) (k : Nat) : F.room k := fun d h => by rw [hd] at h; cases h
theorem round_any {F : Fence} (hd : F.depth = none) {m m' : Nat} {P : Program} {l : Nat} {f : FuncId} {tmps : Array Value} {assign body : Code} {w : World} {R : Ending → World → Prop}
    (h : RoundIn F m P l f tmps assign body w R) : RoundIn F m' P l f tmps assign body w R := ⟨h.1, fun c cs _ => h.2 c cs (room_none hd _)⟩
def Abd {β : Type} (Z : Nat → Prop) (B : Nat) (J : β → Option Nat → World → Prop) : Prop :=
  ∀ s g A C row, J s g A → A.grownBy C row → (∀ r, row = some r → (B ≤ r ∧ some r ≠ g) ∨ Z r) → J s g C
structure Spares (K : Nat → Prop) (g g' : Option Nat) (W W' : World) : Prop where
  size : W.heap.size ≤ W'.heap.size
  own : g' = g ∨ ∃ b, g' = some b ∧ W.heap.size ≤ b ∧ b < W'.heap.size
  same : ∀ k, K k → k < W.heap.size → some k ≠ g → W'.heap[k]? = W.heap[k]?
theorem Spares.refl (K : Nat → Prop) (g : Option Nat) (W : World) : Spares K g g W W := ⟨Nat.le_refl _, .inl rfl, fun _ _ _ _ => rfl⟩
theorem Spares.trans {K : Nat → Prop} {g g' g'' : Option Nat} {A B C : World} (h : Spares K g g' A B) (h' : Spares K g' g'' B C) : Spares K g g'' A C := by
  refine ⟨Nat.le_trans h.size h'.size, ?_, fun k hk hlt hne => ?_⟩
  · rcases h'.own with e | ⟨b, e, hb, hb2⟩
    · rcases h.own with e2 | ⟨b, e2, hb, hb2⟩
      · exact .inl (e.trans e2)
      · exact .inr ⟨b, e.trans e2, hb, Nat.lt_of_lt_of_le hb2 h'.size⟩
    · exact .inr ⟨b, e, Nat.le_trans h.size hb, hb2⟩
  · refine (h'.same k hk (Nat.lt_of_lt_of_le hlt h.size) ?_).trans (h.same k hk hlt hne)
    rcases h.own with e | ⟨b, e, hb, _⟩
    · rw [e]; exact hne
    · rw [e]; intro h; cases h; omega
theorem Spares.imp {K K' : Nat → Prop} {g g' : Option Nat} {A B : World} (h : Spares K g g' A B) (hk : ∀ k, K' k → k < A.heap.size → K k) : Spares K' g g' A B := ⟨h.size, h.own, fun k a b c => h.same k (hk k a b) b c⟩
theorem Spares.below {K : Nat → Prop} {g : Option Nat} {W W' : World} (h : Below W.heap.size W W') : Spares K g g W W' := ⟨h.size, .inl rfl, fun k _ hk _ => h.block k hk⟩
theorem Spares.turned {K : Nat → Prop} {g : Option Nat} {W W' : World} {row : Option Nat} (h : W.grownBy W' row) (hr : ∀ r, row = some r → K r → some r = g) : Spares K g g W W' :=
  ⟨h.size, .inl rfl, fun k hk hlt hne => h.block k hlt (fun e => hne (hr k e.symm hk))⟩
theorem Abd.step {β : Type} {Z : Nat → Prop} {B : Nat} {I : β → Option Nat → World → Prop} (h : Abd Z B I) {s : β} {g : Option Nat} {W W' : World} (hs : I s g W) (hb : W.grownBy W' none) : I s g W' := h s g W _ none hs hb (fun r e => by cases e)
theorem Abd.putObj {β : Type} {Z : Nat → Prop} {B : Nat} {I : β → Option Nat → World → Prop} (h : Abd Z B I) {s : β} {g : Option Nat} {W : World} {l : Nat} (o' : Obj) (hs : I s g W) (hB : B ≤ l) (hl : some l ≠ g) : I s g (W.putObj l o') :=
  h s g W _ (some l) hs (grownBy_putObj' W l o') (fun r e => by cases e; exact .inl ⟨hB, hl⟩)
theorem Abd.alloc {β : Type} {Z : Nat → Prop} {B : Nat} {I : β → Option Nat → World → Prop} (h : Abd Z B I) {s : β} {g : Option Nat} {W : World} (o : Obj) (hs : I s g W) : I s g (W.alloc o) :=
  h.step hs (World.grownBy_alloc W o none)
theorem Abd.and {β : Type} {Z : Nat → Prop} {B : Nat} {I I' : β → Option Nat → World → Prop} (h : Abd Z B I) (h' : Abd Z B I') : Abd Z B (fun s g W => I s g W ∧ I' s g W) := fun s g A C row hs hg hr => ⟨h s g A C row hs.1 hg hr, h' s g A C row hs.2 hg hr⟩
theorem Abd.pure {β : Type} {Z : Nat → Prop} {B : Nat} (p : β → Option Nat → Prop) : Abd Z B (fun s g (_ : World) => p s g) := fun _ _ _ _ _ hs _ _ => hs
theorem Abd.imp {β : Type} {Z Z' : Nat → Prop} {B B' : Nat} {I : β → Option Nat → World → Prop} (h : Abd Z B I) (hB : B ≤ B') (hZ : ∀ r, Z' r → Z r) : Abd Z' B' I := fun s g A C row hs hg hr => h s g A C row hs hg (fun r e => (hr r e).elim (fun k => .inl ⟨Nat.le_trans hB k.1, k.2⟩) (fun k => .inr (hZ r k)))
theorem Abd.low {β : Type} {Z : Nat → Prop} {B n₀ : Nat} {w : World} (hB : n₀ ≤ B) (hw : n₀ ≤ w.heap.size) (hZ : ∀ r, Z r → n₀ ≤ r) : Abd Z B (fun (_ : β) _ W => Below n₀ w W) := fun _ _ _ _ _ hs hg hr =>
  hs.grown hg (Nat.le_trans hw hs.size) (fun k e => (hr k e).elim (fun h => Nat.le_trans hB h.1) (fun h => hZ k h))
theorem Abd.block {β : Type} {Z : Nat → Prop} {B b : Nat} (f : β → Obj) (hB : b < B) (hZ : ¬ Z b) : Abd Z B (fun (s : β) _ W => W.heap[b]? = some (f s)) := fun _ _ _ _ _ hs hg hr =>
  (hg.block b (Array.getElem?_eq_some_iff.1 hs).1 (fun e => (hr b e.symm).elim (fun h => by omega) (fun h => hZ h))).trans hs
theorem Abd.rowed {β : Type} {Z : Nat → Prop} {B n₀ b : Nat} {t e : TypeId} {size : Nat} (k : β → Nat) (f : β → List Value) (m : Nat) (hm : B ≤ m) (hB : b < B) (hZ : ¬ Z b) (hZB : ∀ r, Z r → r < B) :
    Abd Z B (fun (s : β) g W => (∀ q, g = some q → m ≤ q) ∧ ∃ v, v.ownBlock = g ∧ Boxed W b t v ∧ W.ownsRow n₀ e size v (k s) (f s)) := by
  rintro s g A C row ⟨hgB, v, rfl, hb, hr⟩ hg hrow
  refine ⟨hgB, v, rfl, hb.kept hg (fun e' => (hrow b e'.symm).elim (fun h => by omega) (fun h => hZ h)), hr.kept hg ?_⟩
  cases hv : v.ownBlock with
  | none => exact .inl rfl
  | some q => exact .inr (fun e' => (hrow q e'.symm).elim (fun h => h.2 hv.symm) (fun h => by have := hZB q h; have := hgB q hv; omega))
def SeqO {α : Type} (F : Fence) (n : Nat) (P : Program) (gf : Nat) (lb : Array Value) (encs : α → Array Value) (Kz Z : Nat → Prop) (S Sp : List α → Prop) (w : World) : Prop :=
  ∀ (l : Nat) (J Jx : List α → Option Nat → World → Prop) (g0 : Option Nat) (W : World), Below w.heap.size w W → Abd Z W.heap.size J → Abd Z W.heap.size Jx → (∀ q, g0 = some q → ¬ Kz q ∧ q < W.heap.size) →
    (∀ m pre x g W1, J pre g W1 → Sp (pre ++ [x]) → YieldAt F m P l (encs x) W1 fun e W' => ∃ g', Spares (fun k => W.heap.size ≤ k ∨ Kz k) g g' W1 W' ∧
      ((e = .returned (.bool true) ∧ J (pre ++ [x]) g' W') ∨ (e = .returned (.bool false) ∧ Jx (pre ++ [x]) g' W'))) →
    J [] g0 W →
    CallsIn F n P gf (#[.func (.yield l) #[] #[]] ++ lb) W fun e W' => (∃ v, e = .returned v) ∧ ((∃ xs g, S xs ∧ J xs g W') ∨ (∃ pre g, Sp pre ∧ Jx pre g W'))
def leftO {α : Type} (K : Nat → Prop) (I : List α → Option Nat → World → Prop) (Ix : Code → List α → Option Nat → World → Prop) (xs : List α) (g : Option Nat) (W : World) : Exit → Act → World → Prop
  | .normal, _, W' => ∃ g', Spares K g g' W W' ∧ I xs g' W'
  | .ret, _, W' => ∃ g', Spares K g g' W W' ∧ Ix .ret xs g' W'
  | .exit id, _, W' => ∃ g', Spares K g g' W W' ∧ Ix (.exit id) xs g' W'
  | .goto t, _, W' => ∃ g', Spares K g g' W W' ∧ Ix (.goto t) xs g' W'
  | .panic _, _, _ => False
  | .outgrown, _, _ => False
theorem wpIn_range_own {F : Fence} {n : Nat} {P : Program} {α : Type} {f : Operand} {ps : Array Tmp} {assign body : Code} {Q : Exit → Act → World → Prop} {a : Act} {w : World}
    (hd : F.depth = none) (hro : F.round = none) (h1 : 1 ≤ n) {gf : Nat} {lb : Array Value} (hf : a.eval f = .func (.func gf) #[] lb) (hFg : F.fn gf) (eg : ∀ args w, (callFunc gf args).run P w = .ok (.enter gf args) w)
    {encs : α → Array Value} {Kz Z : Nat → Prop} {S Sp : List α → Prop} {w0 : World} (hseq : SeqO F (n - 1) P gf lb encs Kz Z S Sp w0)
    (hb0 : Below w0.heap.size w0 w) (hZ : ∀ r, Z r → r < w.heap.size) (hKz : ∀ r, Kz r → r < w.heap.size) (hps : ∀ x, (encs x).size = ps.size)
    (g0 : Option Nat) (hg0 : ∀ q, g0 = some q → ¬ Kz q ∧ q < w.heap.size) (I : List α → Option Nat → World → Prop) (Ix : Code → List α → Option Nat → World → Prop) (hI : Abd Z w.heap.size I) (hIx : ∀ c, Abd Z w.heap.size (Ix c)) (h0 : I [] g0 w)
    (hIg : ∀ pre g W q, I pre g W → g = some q → q < w.heap.size ∨ w.heap.size + 2 ≤ q) (hIxg : ∀ c pre g W q, Ix c pre g W → g = some q → q < w.heap.size ∨ w.heap.size + 2 ≤ q)
    (Ax : α → Act → World → Prop) (hAx : ∀ x a', Abd (fun _ => False) w.heap.size (fun (_ : Unit) (_ : Option Nat) W => Ax x a' W))
    (hassign : ∀ (l : Nat) (pre : List α) (x : α) (g : Option Nat) (W : World) (K : Act → World → Prop), I pre g W → (∀ a' W', Spares (fun k => w.heap.size ≤ k ∨ Kz k) g g W W' → I pre g W' → Ax x a' W' → K a' W') →
      assign.wpIn (F.inRound l) (n - 1 - 1) P (Exit.then K (fun _ _ _ => False)) { tmps := (ps.zip (encs x)).foldl (fun t (p, v) => t.setIfInBounds p v) a.tmps, defers := [] } W)
    (hbody : ∀ (l : Nat) (pre : List α) (x : α) (g : Option Nat) (a' : Act) (W : World), w.heap.size + 2 ≤ W.heap.size → I pre g W → Ax x a' W → Sp (pre ++ [x]) → body.wpIn (F.inRound l) (n - 1 - 1) P (leftO (fun k => w.heap.size ≤ k ∨ Kz k) I Ix (pre ++ [x]) g W) a' W)
    (hdone : ∀ (D : Nat) (xs : List α) (g : Option Nat) (W : World), D = w.heap.size → S xs → I xs g W → W.heap[D]? = some (.deferred (some [])) → Q .normal { a with defers := { target := .collected D, args := #[] } :: a.defers } W)
    (hstop : ∀ (D : Nat) (c : Code) (pre : List α) (g : Option Nat) (W : World), D = w.heap.size → Sp pre → Ix c pre g W → W.heap[D]? = some (.deferred (some [])) → c.wpIn F n P Q { a with defers := { target := .collected D, args := #[] } :: a.defers } W) :
    (Code.rangeFunc f ps assign body).wpIn F n P Q a w := by
  refine wpIn_rangeFunc ?_
  intro fn hfn
  rw [hro]
  obtain ⟨rec, hrec⟩ : ∃ rec : LoopState → Option Code → Loop, rec = fun st pe => { state := st, pending := pe, fn, tmps := a.tmps, params := ps, assign, body, defers := w.heap.size } := ⟨_, rfl⟩
  obtain ⟨W1, hW1⟩ : ∃ W1, (w.alloc (.deferred (some []))).alloc (.loop (rec .ready none)) = W1 := ⟨_, rfl⟩
  have hsz : W1.heap.size = w.heap.size + 2 := by rw [← hW1, World.size_alloc, World.size_alloc]
  have hL1 : W1.heap[w.heap.size + 1]? = some (.loop (rec .ready none)) := by
    rw [← hW1]; have := World.alloc_heap_new (w.alloc (.deferred (some []))) (.loop (rec .ready none)); rwa [World.size_alloc] at this
  have hK1 : W1.heap[w.heap.size]? = some (.deferred (some [])) := by
    rw [← hW1]; exact (Below.heap_alloc _ _ _ (by simp)).trans (World.alloc_heap_new w _)
  have hI1 : I [] g0 W1 := by rw [← hW1]; exact hI.alloc _ (hI.alloc _ h0)
  have hb1 : Below w0.heap.size w0 W1 := by
    rw [← hW1]; exact hb0.trans ((((Below.refl _ w).alloc (Nat.le_refl _) _).alloc (by simp) _).mono hb0.size)
  refine ⟨w.heap.size + 1, [{ target := .collected w.heap.size, args := #[] }], W1, { target := .fn (.func gf) lb, args := #[.func (.yield (w.heap.size + 1)) #[] #[]] }, W1, gf,
    #[.func (.yield (w.heap.size + 1)) #[] #[]] ++ lb, W1, ?_, ?_, ?_, ?_, fun _ => h1, ?_⟩
  · rw [← hW1, hrec]; exact run_enterLoop_outer _ _ _ _ _
  · simp only [resolve, hf]
    simp [go_sem]
  · intro f' hf'; simp [Target.leads] at hf'; subst hf'; exact hFg
  · simp [invoke, go_sem, eg]
  · -- which blocks the iterator turns, said of the caller's side
    have hrow : ∀ {g : Option Nat} {row : Option Nat}, (∀ r, row = some r → (W1.heap.size ≤ r ∧ some r ≠ g) ∨ Z r) → (∀ r, row = some r → (w.heap.size ≤ r ∧ some r ≠ g) ∨ Z r) :=
      fun hr r e => (hr r e).elim (fun k => .inl ⟨by have := k.1; omega, k.2⟩) .inr
    have hlies : ∀ {A C : World} {g : Option Nat} {row : Option Nat} {k : Nat} {o : Obj}, A.grownBy C row → (∀ r, row = some r → (W1.heap.size ≤ r ∧ some r ≠ g) ∨ Z r) → w.heap.size ≤ k → k < W1.heap.size → A.heap[k]? = some o → C.heap[k]? = some o :=
      fun hg' hr h2 h3 hk => (hg'.block _ (Array.getElem?_eq_some_iff.1 hk).1 (fun e => (hr _ e.symm).elim (fun k => by have := k.1; omega) (fun k => by have := hZ _ k; omega))).trans hk
    refine (hseq (w.heap.size + 1)
      (fun pre g W => I pre g W ∧ W.heap[w.heap.size + 1]? = some (.loop (rec .ready none)) ∧ W.heap[w.heap.size]? = some (.deferred (some [])))
      (fun pre g W => ∃ c, Ix c pre g W ∧ W.heap[w.heap.size + 1]? = some (.loop (rec .done (some c))) ∧ W.heap[w.heap.size]? = some (.deferred (some [])))
      g0 W1 hb1
      (fun s g A B row hs hg' hr => ⟨hI s g A B row hs.1 hg' (hrow hr), hlies hg' hr (by omega) (by omega) hs.2.1, hlies hg' hr (by omega) (by omega) hs.2.2⟩)
      (fun s g A B row hs hg' hr => by
        obtain ⟨c, hc, hl, hk⟩ := hs
        exact ⟨c, hIx c s g A B row hc hg' (hrow hr), hlies hg' hr (by omega) (by omega) hl, hlies hg' hr (by omega) (by omega) hk⟩)
      (fun q e => ⟨(hg0 q e).1, by have := (hg0 q e).2; omega⟩) ?_ ⟨hI1, hL1, hK1⟩).mono ?_
    · -- one round
      rintro m pre x g W ⟨hi, hl, hk⟩ hlen
      have hlt : w.heap.size + 1 < W.heap.size := (Array.getElem?_eq_some_iff.1 hl).1
      have hy := run_yield (P := P) (args := encs x) hl (by rw [hrec]; exact hps x)
      rw [hrec] at hy
      refine ⟨fn, _, assign, body, hy, round_any hd (m := n - 1 - 1) (roundIn_of_wpIn hfn (hassign _ pre x g W _ hi ?_))⟩
      clear hy
      intro a' Wa hsa hia hax
      have hgq : ∀ q, g = some q → q < w.heap.size ∨ w.heap.size + 2 ≤ q := fun q e => hIg pre g W q hi e
      have hl := (hsa.same _ (.inl (by omega)) hlt (fun e => by have := hgq _ e.symm; omega)).trans hl
      have hk := (hsa.same w.heap.size (.inl (Nat.le_refl _)) (by omega) (fun e => by have := hgq _ e.symm; omega)).trans hk
      have hlt2 : w.heap.size + 1 < Wa.heap.size := (Array.getElem?_eq_some_iff.1 hl).1
      refine ⟨_, run_beginRound hl (by rw [hrec]), ?_⟩
      obtain ⟨Wb, hWb⟩ : ∃ Wb, Wa.putObj (w.heap.size + 1) (.loop { rec .ready none with state := .busy }) = Wb := ⟨_, rfl⟩
      have hl2 : Wb.heap[w.heap.size + 1]? = some (.loop { rec .ready none with state := .busy }) := by rw [← hWb]; exact World.putObj_heap_same hlt2
      have hk2 : Wb.heap[w.heap.size]? = some (.deferred (some [])) := by rw [← hWb]; exact (World.putObj_heap_other (by omega)).trans hk
      have hne : some (w.heap.size + 1) ≠ g := fun e => by have := hgq _ e.symm; omega
      have hIb : I pre g Wb := by rw [← hWb]; exact hI.putObj _ hia (by omega) hne
      have hAb : Ax x a' Wb := by rw [← hWb]; exact (hAx x a').putObj (s := ()) (g := none) _ hax (by omega) (by simp)
      have hzz : ∀ k, (W1.heap.size ≤ k ∨ Kz k) → (w.heap.size ≤ k ∨ Kz k) := fun k h => h.elim (fun h => .inl (by omega)) .inr
      have hsb : Spares (fun k => W1.heap.size ≤ k ∨ Kz k) g g Wa Wb := by
        rw [← hWb]; exact Spares.turned (grownBy_putObj' _ _ _) (fun j e hj => by cases e; rcases hj with h | h; exact absurd h (by omega); have := hKz _ h; omega)
      have hs2 : Spares (fun k => W1.heap.size ≤ k ∨ Kz k) g g W Wb := (hsa.imp (fun k h _ => hzz k h)).trans hsb
      rw [hWb]
      refine wpIn_mono (hbody _ pre x g a' _ (Array.getElem?_eq_some_iff.1 hl2).1 hIb hAb hlen) ?_
      have fin : ∀ (jump : Option Code) (g' : Option Nat) (W3 : World), Spares (fun k => w.heap.size ≤ k ∨ Kz k) g g' Wb W3 →
          (Instr.endRound (w.heap.size + 1) jump).run P W3 = .ok (.bool jump.isNone) (W3.putObj (w.heap.size + 1) (.loop (rec (if jump.isNone then .ready else .done) jump))) ∧
          (W3.putObj (w.heap.size + 1) (.loop (rec (if jump.isNone then .ready else .done) jump))).heap[w.heap.size + 1]? = some (.loop (rec (if jump.isNone then .ready else .done) jump)) ∧
          (W3.putObj (w.heap.size + 1) (.loop (rec (if jump.isNone then .ready else .done) jump))).heap[w.heap.size]? = some (.deferred (some [])) ∧
          Spares (fun k => W1.heap.size ≤ k ∨ Kz k) g g' W (W3.putObj (w.heap.size + 1) (.loop (rec (if jump.isNone then .ready else .done) jump))) := fun jump g' W3 hk3 => by
        have hl3 := (hk3.same _ (.inl (by omega)) (Array.getElem?_eq_some_iff.1 hl2).1 hne).trans hl2
        have hk4 := (hk3.same w.heap.size (.inl (Nat.le_refl _)) (Array.getElem?_eq_some_iff.1 hk2).1 (fun e => by have := hgq _ e.symm; omega)).trans hk2
        have := run_endRound (P := P) jump hl3
        rw [hrec] at this ⊢
        exact ⟨this, World.putObj_heap_same (Array.getElem?_eq_some_iff.1 hl3).1, (World.putObj_heap_other (by omega)).trans hk4,
          hs2.trans ((hk3.imp (fun k h _ => hzz k h)).trans (Spares.turned (grownBy_putObj' _ _ _) (fun j e hj => by cases e; rcases hj with h | h; exact absurd h (by omega); have := hKz _ h; omega)))⟩
      have hng : ∀ {g' : Option Nat}, (∀ q, g' = some q → q < w.heap.size ∨ w.heap.size + 2 ≤ q) → some (w.heap.size + 1) ≠ g' := fun h e => by have := h _ e.symm; omega
      rintro e a3 W3 hp
      cases e with
      | normal =>
        obtain ⟨g', hk3, hi3⟩ := hp
        obtain ⟨hr, hl4, hk4, hs4⟩ := fin none g' W3 hk3
        exact ⟨_, _, hr, g', hs4, .inl ⟨rfl, hI.putObj _ hi3 (by omega) (hng (fun q e => hIg _ _ _ q hi3 e)), hl4, hk4⟩⟩
      | ret =>
        obtain ⟨g', hk3, hi3⟩ := hp
        obtain ⟨hr, hl4, hk4, hs4⟩ := fin (some .ret) g' W3 hk3
        exact ⟨_, _, hr, g', hs4, .inr ⟨rfl, .ret, (hIx _).putObj _ hi3 (by omega) (hng (fun q e => hIxg _ _ _ _ q hi3 e)), hl4, hk4⟩⟩
      | exit id =>
        obtain ⟨g', hk3, hi3⟩ := hp
        obtain ⟨hr, hl4, hk4, hs4⟩ := fin (some (.exit id)) g' W3 hk3
        exact ⟨_, _, hr, g', hs4, .inr ⟨rfl, .exit id, (hIx _).putObj _ hi3 (by omega) (hng (fun q e => hIxg _ _ _ _ q hi3 e)), hl4, hk4⟩⟩
      | goto t =>
        obtain ⟨g', hk3, hi3⟩ := hp
        obtain ⟨hr, hl4, hk4, hs4⟩ := fin (some (.goto t)) g' W3 hk3
        exact ⟨_, _, hr, g', hs4, .inr ⟨rfl, .goto t, (hIx _).putObj _ hi3 (by omega) (hng (fun q e => hIxg _ _ _ _ q hi3 e)), hl4, hk4⟩⟩
      | panic ch => exact hp.elim
      | outgrown => exact hp.elim
    · -- behind the iterator
      rintro e W2 ⟨⟨v, rfl⟩, (⟨xs, g, hS, hi, hl, hk⟩ | ⟨pre, g, hSp, c, hi, hl, hk⟩)⟩
      · exact ⟨none, _, by have := run_endLoop (P := P) hl (by rw [hrec]; simp); rw [hrec] at this; exact this, hdone _ xs g _ rfl hS (hI.putObj _ hi (by omega) (fun e => by have := hIg _ _ _ _ hi e.symm; omega)) ((World.putObj_heap_other (by omega)).trans hk)⟩
      · exact ⟨some c, _, by have := run_endLoop (P := P) hl (by rw [hrec]; simp); rw [hrec] at this; exact this, hstop _ c pre g _ rfl hSp ((hIx c).putObj _ hi (by omega) (fun e => by have := hIxg _ _ _ _ _ hi e.symm; omega)) ((World.putObj_heap_other (by omega)).trans hk)⟩
structure Lies (K : Nat → Prop) (W W' : World) : Prop where
  size : W.heap.size ≤ W'.heap.size
  same : ∀ k, K k → k < W.heap.size → W'.heap[k]? = W.heap[k]?
theorem Lies.refl (K : Nat → Prop) (W : World) : Lies K W W := ⟨Nat.le_refl _, fun _ _ _ => rfl⟩
theorem Lies.trans {K : Nat → Prop} {A B C : World} (h : Lies K A B) (h' : Lies K B C) : Lies K A C := ⟨Nat.le_trans h.size h'.size, fun k hk hlt => (h'.same k hk (Nat.lt_of_lt_of_le hlt h.size)).trans (h.same k hk hlt)⟩
theorem Lies.below {K : Nat → Prop} {A B : World} (h : Below A.heap.size A B) : Lies K A B := ⟨h.size, fun k _ hk => h.block k hk⟩
theorem Lies.imp {K K' : Nat → Prop} {A B : World} (h : Lies K A B) (hk : ∀ k, K' k → K k) : Lies K' A B := ⟨h.size, fun k a => h.same k (hk k a)⟩
theorem Lies.grown {K : Nat → Prop} {A B : World} {row : Option Nat} (h : A.grownBy B row) (hr : ∀ r, row = some r → ¬ K r) : Lies K A B := ⟨h.size, fun k hk hlt => h.block k hlt (fun e => hr k e.symm hk)⟩
theorem Spares.lies {K K' : Nat → Prop} {g g' : Option Nat} {A B : World} (h : Spares K g g' A B) (hk : ∀ k, K' k → k < A.heap.size → K k ∧ some k ≠ g) : Lies K' A B := ⟨h.size, fun k a b => h.same k (hk k a b).1 b (hk k a b).2⟩
theorem Lies.cell {K : Nat → Prop} {A B : World} (h : Lies K A B) {p : Addr} {v : Value} (hk : K p.block) (hc : A.cell? p = some v) : B.cell? p = some v :=
  (World.cell?_of_block (h.same p.block hk (World.block_lt_of_cell? A p hc))).trans hc
theorem Lies.box {K : Nat → Prop} {A B : World} (h : Lies K A B) {b : Nat} {t : TypeId} {v : Value} (hk : K b) (hc : Boxed A b t v) : Boxed B b t v := (h.same b hk hc.lt).trans hc
theorem Spares.lt {K : Nat → Prop} {g g' : Option Nat} {A B : World} (h : Spares K g g' A B) (hg : ∀ q, g = some q → q < A.heap.size) : ∀ q, g' = some q → q < B.heap.size := by
  intro q e
  rcases h.own with e' | ⟨b, e', hb, hb2⟩
  · exact Nat.lt_of_lt_of_le (hg q (e' ▸ e)) h.size
  · rw [e] at e'; cases e'; exact hb2
theorem Spares.not {K Kz : Nat → Prop} {g g' : Option Nat} {A B : World} (h : Spares K g g' A B) (hn : ∀ k, Kz k → k < A.heap.size) (hg : ∀ q, g = some q → ¬ Kz q) : ∀ q, g' = some q → ¬ Kz q := by
  intro q e
  rcases h.own with e' | ⟨b, e', hb, _⟩
  · exact hg q (e' ▸ e)
  · rw [e] at e'; cases e'
    intro hk
    have := hn q hk
    omega
theorem Spares.ge {K : Nat → Prop} {g g' : Option Nat} {A B : World} {n : Nat} (h : Spares K g g' A B) (hn : n ≤ A.heap.size) (hg : ∀ q, g = some q → n ≤ q) : ∀ q, g' = some q → n ≤ q := by
  intro q e
  rcases h.own with e' | ⟨b, e', hb, _⟩
  · exact hg q (e' ▸ e)
  · rw [e] at e'; cases e'; omega
theorem collected {K : Nat → Prop} {W w1 : World} {n₀ B : Nat} {t e : TypeId} {size : Nat} {v v1 : Value} {k m : Nat} {xs ys : List Value}
    (hv : Boxed W B t v) (hte : t ≠ e) (hrow : W.ownsRow n₀ e size v k xs) (hKB : ¬ K B) (hB : n₀ ≤ B)
    (hown' : w1.ownsRow n₀ e size v1 m ys) (hg : W.grownBy w1 v.ownBlock) (hat : v1.ownBlock = v.ownBlock ∨ ∃ b, v1.ownBlock = some b ∧ W.heap.size ≤ b) :
    Boxed w1 B t v ∧ Boxed (w1.setCell ⟨B, 0, none⟩ v1) B t v1 ∧ (w1.setCell ⟨B, 0, none⟩ v1).ownsRow n₀ e size v1 m ys ∧ Spares K v.ownBlock v1.ownBlock W (w1.setCell ⟨B, 0, none⟩ v1) ∧ Below n₀ W (w1.setCell ⟨B, 0, none⟩ v1) := by
  have hv1 : Boxed w1 B t v := hv.kept hg (hv.not_row hte hrow)
  have hlt1 : ∀ b, v1.ownBlock = some b → b < (w1.setCell ⟨B, 0, none⟩ v1).heap.size := fun b e => by
    have h2 := (grownBy_setCell' w1 B v1).size
    rcases hown'.2 with ⟨rfl, _⟩ | ⟨g, cap, cur, rfl, _, hh, _⟩
    · simp [Value.ownBlock] at e
    · obtain rfl : g = b := by simpa [Value.ownBlock] using e
      exact Nat.lt_of_lt_of_le (Array.getElem?_eq_some_iff.1 hh).1 h2
  refine ⟨hv1, hv1.set v1, hown'.kept (grownBy_setCell' w1 B v1) (.inr (hv1.not_row hte hown').symm), ⟨?_, hat.imp id (fun ⟨b, e, hb⟩ => ⟨b, e, hb, hlt1 b e⟩), ?_⟩, ?_⟩
  · exact Nat.le_trans hg.size (grownBy_setCell' w1 B v1).size
  · intro k hk hlt hne
    refine ((grownBy_setCell' w1 B v1).block k (Nat.lt_of_lt_of_le hlt hg.size) (fun e => ?_)).trans (hg.block k hlt hne)
    cases e
    exact hKB hk
  · refine ((Below.refl n₀ W).grown hg (Nat.le_trans hB (Nat.le_of_lt hv.lt)) fun j ej => ?_).setCell (p := ⟨B, 0, none⟩) hB v1
    rcases hrow.2 with ⟨rfl, _⟩ | ⟨g, cap, cur, rfl, hb, _, _⟩
    · simp [Value.ownBlock] at ej
    · obtain rfl : g = j := by simpa [Value.ownBlock] using ej
      exact hb
end Go.Proofs.YtmmbpbgcobmifaaGreatDoorH
end
section
namespace Go.Proofs.YtmmbpbgcobmifaaGreatDoorH
open Go Go.RowKit Go.Proofs.YtmmbpbgcobmifaaGreatDoorW.PrintWords Go.Proofs.YtmmbpbgcobmifaaGreatDoorW.PrintLast Go.Proofs.YtmmbpbgcobmifaaGreatDoorW.PrintMore
def Halted (p : Prop) : Prop := p
theorem halt {p : Prop} (h : Halted p) : p := h
theorem unhalt {p : Prop} (h : p) : Halted p := h
theorem in_append {F : Fence} {n : Nat} {P : Program} {ops : Array Oper} {rest : List Oper} {o : Oper} {a : Act} {Q : Exit → Act → World → Prop} {W : World} (base : Nat) (hgd : o.guard = none) (s x : Operand) (t e : TypeId) (z : Value) (size bytes : Nat)
    (ho : o.op = .call { callee := .builtin .append, args := #[s, x], argTypes := #[t, t] })
    (ht : P.underlying t = some (.slice e)) (hinfo : (P.info? e).map (fun i => (i.zero, i.size, i.bytes)) = some (some z, size, bytes)) (hz : z.cells.size = size) (hs0 : 0 < size) (hb0 : 0 < bytes)
    (v : Value) (k : Nat) (xs ys : List Value) (hs : a.eval s = v) (hx : a.eval x = .slice (some ⟨W.heap.size, 0, none⟩) 1 1) (hys : ys.length = size) (h1 : ∀ u ∈ ys, u.oneCell' = true)
    (HO : W.ownsRow base e size v k xs) (hbase : base ≤ W.heap.size) (hl : (k + 1) * bytes ≤ 140737488355328)
    (h : ∀ v1 w1, w1.ownsRow base e size v1 (k + 1) (xs ++ ys) → W.grownBy w1 v.ownBlock → (v1.ownBlock = v.ownBlock ∨ ∃ b, v1.ownBlock = some b ∧ W.heap.size ≤ b) → wpListIn F n P ops Q rest (a.put o.dst v1) w1) :
    wpListIn F n P ops Q (o :: rest) a (W.alloc (.cells ys.toArray e)) := by
  obtain ⟨i0, hi, hzz⟩ := Option.map_eq_some_iff.1 hinfo
  simp only [Prod.mk.injEq] at hzz
  obtain ⟨hz0, hz1, hz2⟩ := hzz
  have hlen : k + 1 ≤ 140737488355328 := Nat.le_trans (Nat.le_mul_of_pos_right _ hb0) hl
  refine wpListIn_plain hgd fun K hK' => ?_
  obtain ⟨v1, w1, hr, hown, hg, _, hat⟩ := run_append_own_at (P := P) (W.alloc (.cells ys.toArray e)) base t o.type e i0 z size bytes ht hi hz0 hz1 hz2 hz hs0 v k xs (HO.alloc _) ⟨W.heap.size, 0, none⟩ 1 1 ys (by rw [hys]; simp)
    (by simpa using World.news_of_block (cs := ys.toArray) (t := e) (fr := (0, 0)) (heap_alloc_new W (.cells ys.toArray e))) h1 (by simp only [maxLen]; omega) hl (by simp; omega)
  unfold Oper.wpIn
  refine ⟨?_, ?_⟩
  · simp [Oper.about, ho, resolve, Target.leads, Sem.run_pure]
  · rw [Oper.semAt_plain F _ _ (by rw [ho]; intro c hc'; cases hc')]
    simp [execOp, ho, resolve, invoke, builtin, hs, hx, hr, Result.andThen]
    refine hK' _ _ (h v1 w1 hown (World.grownBy.trans (World.grownBy_alloc W _ _) hg) ?_)
    rcases hat with hat | hat
    · exact .inl hat
    · exact .inr ⟨_, hat, by simp⟩
theorem row_of_owns {α : Type} (d : Kd α) (enc : α → List Value) {e : Nat} {w : World} {base : Nat} {v : Value} {xs : List α} (hl : ∀ x, (enc x).length = d.sz) (hM : ∀ ok x, d.M w base ok x (enc x))
    (h : w.ownsRow base e d.sz v xs.length (xs.flatMap enc)) : d.R e w base (fun _ => True) v xs := by
  refine ⟨fun _ _ => trivial, xs.flatMap enc, h, ?_⟩
  clear h
  have key : ∀ (l r : List α) (inner : List Value), Reps (d.M w base (fun k => True ∧ some k ≠ v.ownBlock)) d.sz l inner → Reps (d.M w base (fun k => True ∧ some k ≠ v.ownBlock)) d.sz (l ++ r) (inner ++ r.flatMap enc) := by
    intro l r
    induction r generalizing l with
    | nil => intro inner h; simpa using h
    | cons x r ih =>
      intro inner h
      have := ih (l ++ [x]) (inner ++ enc x) (h.snoc (hM _ x) (hl x))
      simpa using this
  have := key [] xs [] (Reps.none _ _)
  simpa using this
theorem owns_slice {w : World} {base : Nat} {e : TypeId} {size : Nat} {v : Value} {k : Nat} {xs : List Value} (h : w.ownsRow base e size v k xs) : ∃ (a : Option Addr) (n c : Nat), v = .slice a n c := by
  rcases h.2 with ⟨rfl, _⟩ | ⟨g, cap, cur, rfl, _⟩
  · exact ⟨_, _, _, rfl⟩
  · exact ⟨_, _, _, rfl⟩
theorem closed {W : World} {n₀ b D : Nat} {t e : TypeId} {size : Nat} {v : Value} {k : Nat} {xs : List Value} (hv : Boxed W b t v) (hte : t ≠ e) (hrow : W.ownsRow n₀ e size v k xs) (hb : n₀ ≤ b) (hD : n₀ ≤ D) (hK : W.heap[D]? = some (.deferred (some []))) :
    (W.setCell ⟨b, 0, none⟩ v).heap[D]? = some (.deferred (some [])) ∧ Boxed ((W.setCell ⟨b, 0, none⟩ v).putObj D (.deferred none)) b t v ∧ ((W.setCell ⟨b, 0, none⟩ v).putObj D (.deferred none)).ownsRow n₀ e size v k xs ∧ Below n₀ W ((W.setCell ⟨b, 0, none⟩ v).putObj D (.deferred none)) := by
  have hne : D ≠ b := by
    rintro rfl
    have := hK.symm.trans hv
    cases this
  have h1 : (W.setCell ⟨b, 0, none⟩ v).heap[D]? = some (.deferred (some [])) := (Below.heap_setCell W _ _ D hne).trans hK
  have hlt := (Array.getElem?_eq_some_iff.1 hK).1
  refine ⟨h1, (hv.set v).kept (grownBy_putObj' _ _ _) (fun h => hne (by cases h; rfl)), ownsRow_putObj (hrow.kept (grownBy_setCell' W b v) (.inr (hv.not_row hte hrow).symm)) _ h1 rfl, ?_⟩
  exact ((Below.refl n₀ W).setCell (p := ⟨b, 0, none⟩) hb v).grown (grownBy_putObj' _ _ _) (Nat.le_trans hD (Nat.le_trans (Nat.le_of_lt hlt) (grownBy_setCell' W b v).size)) (fun j ej => by cases ej; exact hD)
end Go.Proofs.YtmmbpbgcobmifaaGreatDoorH
end
section
namespace Go.Proofs.YtmmbpbgcobmifaaGreatDoorH
open Go Go.RowKit Go.Proofs.YtmmbpbgcobmifaaGreatDoorW.PrintWords Go.Proofs.YtmmbpbgcobmifaaGreatDoorW.PrintLast Go.Proofs.YtmmbpbgcobmifaaGreatDoorW.PrintMore
def RowD (W : World) (base : Nat) (v : Value) (l : List Int) : Prop := W.ownsRow base 5 1 v l.length (l.map (Value.int .u8))
theorem RowD.zero (W : World) (base : Nat) : RowD W base (.slice none 0 0) [] := own_nil W base _ 1
theorem RowD.move {W W1 : World} {base : Nat} {v : Value} {l : List Int} (h : RowD W base v l) (hm : ∀ k, v.ownBlock = some k → W1.heap[k]? = W.heap[k]?) : RowD W1 base v l := own_move h hm
theorem RowD.at {W : World} {base : Nat} {v : Value} {l : List Int} (h : RowD W base v l) (k : Nat) (hk : v.ownBlock = some k) : base ≤ k ∧ ∃ cs, W.heap[k]? = some (.cells cs 5 (0, 0)) := by
  rcases h.2 with ⟨rfl, _⟩ | ⟨g, cap, cur, rfl, hb, hh, _⟩
  · simp [Value.ownBlock] at hk
  · have : g = k := by simpa [Value.ownBlock] using hk
    subst this
    exact ⟨hb, _, hh⟩
theorem RowD.only {W W1 : World} {base b : Nat} {v : Value} {l : List Int} (h : RowD W base v l) (ho : Only b W W1) (hne : v.ownBlock ≠ some b) : RowD W1 base v l := h.move fun k hk => by
  obtain ⟨_, cs, hc⟩ := h.at k hk
  rw [hc]
  exact ho.blk hc (fun e => hne (e ▸ hk))
theorem flat_one : ∀ l : List Int, (l.flatMap fun x => [Value.int .u8 x]) = l.map (Value.int .u8)
  | [] => rfl
  | x :: l => by
    rw [List.flatMap_cons, flat_one l]
    rfl
theorem RowD.reads {W : World} {base : Nat} {v : Value} {l : List Int} (h : RowD W base v l) : ∃ A c, v = .slice A l.length c ∧ l.length ≤ c ∧ Kd.C (Kd.int .u8) W A l.length l := by
  have h1 : W.ownsRow base 5 (Kd.int .u8).sz v l.length (l.flatMap fun x => [Value.int .u8 x]) := by
    rw [flat_one]
    exact h
  exact Kd.R_reads (row_of_owns (Kd.int .u8) (fun x => [Value.int .u8 x]) (fun _ => rfl) (fun _ _ => rfl) h1)
theorem wp_plusB {P : Program} {o : Oper} {a : Act} {K : Act → World → Prop} {Q : Exit → Act → World → Prop} {W W0 : World} (base : Nat) (s x : Operand) (t : TypeId) (z : Value)
    (ho : o.op = .call { callee := .builtin .append, args := #[s, x], argTypes := #[t, t] })
    (ht : P.underlying t = some (.slice 5)) (hinfo : (P.info? 5).map (fun i => (i.zero, i.size, i.bytes)) = some (some z, 1, 1)) (hz : z.cells.size = 1)
    (v : Value) (pre l : List Int) (A : Option Addr) (c : Nat) (hs : a.eval s = v) (hx : a.eval x = .slice A l.length c) (HO : RowD W base v pre) (HC : Kd.C (Kd.int .u8) W A l.length l) (HB : Below base W0 W) (hbase : base ≤ W.heap.size)
    (hl : pre.length + l.length ≤ 140737488355328)
    (h : ∀ v1 w1, RowD w1 base v1 (pre ++ l) → Below base W0 w1 → W.heap.size ≤ w1.heap.size → (∀ b ob, W.heap[b]? = some ob → some b ≠ v.ownBlock → w1.heap[b]? = some ob) → K (a.put o.dst v1) w1) : o.wp P a W K Q := by
  obtain ⟨i0, hi, hzz⟩ := Option.map_eq_some_iff.1 hinfo
  simp only [Prod.mk.injEq] at hzz
  obtain ⟨hz0, hz1, hz2⟩ := hzz
  have hrow : ∀ k, v.ownBlock = some k → base ≤ k := own_base HO
  unfold Oper.wp
  simp only [execOp, ho, resolve, invoke, builtin, Sem.run_bind, Sem.run_pure, Result.andThen_ok, List.map_toArray, List.map_cons, List.map_nil, hs, hx]
  cases A with
  | some ad =>
    obtain ⟨v1, w1, hr, hown, hg, _, _⟩ := run_append_own_at (P := P) W base t o.type 5 i0 z 1 1 ht hi hz0 hz1 hz2 hz (by decide) v pre.length _ HO ad l.length c (l.map (Value.int .u8)) (by rw [List.length_map]; omega)
      (fun j u hu => by
        rw [List.getElem?_map] at hu
        obtain ⟨y, hy, rfl⟩ := Option.map_eq_some_iff.1 hu
        obtain ⟨ad', e, hc⟩ := HC.2.2 (by have := (List.getElem?_eq_some_iff.1 hy).1; omega)
        cases e
        obtain ⟨cs, _, hK, hcs⟩ := hc j y hy
        have hK : cs = [.int .u8 y] := hK
        have := hcs 0 (.int .u8 y) (by rw [hK]; rfl)
        rwa [show j * (Kd.int .u8).sz + 0 = j by show j * 1 + 0 = j; omega] at this)
      (fun u hu => by
        obtain ⟨p, _, rfl⟩ := List.mem_map.1 hu
        rfl) (by simp only [maxLen]; omega) (by omega) hbase
    rw [hr]
    refine h v1 w1 ?_ (HB.grown hg hbase hrow) hg.size (fun b ob hb hne => (hg.block b (blk_lt hb) hne).trans hb)
    unfold RowD
    rw [List.length_append, List.map_append]
    exact hown
  | none =>
    have hn : l = [] := by
      rcases l with _ | ⟨y, l⟩
      · rfl
      · obtain ⟨_, e, _⟩ := HC.2.2 (Nat.succ_pos _)
        cases e
    subst hn
    have hv : (Builtin.append_ #[t, t] o.type #[v, .slice none 0 c]).run P W = .ok v W := by
      rcases HO.2 with ⟨rfl, hp⟩ | ⟨g, cap, cur, rfl, _, hg, hnc, _⟩
      · simp [Builtin.append_, run_underlying ht, sizeOf, typeInfo, hi, Builtin.lenOf, Builtin.firstCells]
      · simp [Builtin.append_, run_underlying ht, sizeOf, typeInfo, hi, Builtin.lenOf, Builtin.firstCells, hnc, storeCells]
    rw [show ([] : List Int).length = 0 from rfl, hv]
    exact h v W (by rw [List.append_nil]; exact HO) HB (Nat.le_refl _) (fun _ _ hb _ => hb)
end Go.Proofs.YtmmbpbgcobmifaaGreatDoorH
end
section
namespace Go.Proofs.YtmmbpbgcobmifaaGreatDoor.Pr
end Go.Proofs.YtmmbpbgcobmifaaGreatDoor.Pr
namespace Go.Proofs.YtmmbpbgcobmifaaGreatDoorH
open Go Go.RowKit Go.Proofs.YtmmbpbgcobmifaaGreatDoorW.PrintWords Go.Proofs.YtmmbpbgcobmifaaGreatDoorW.PrintLast Go.Proofs.YtmmbpbgcobmifaaGreatDoorW.PrintMore Go.Proofs.YtmmbpbgcobmifaaGreatDoor.Pr
theorem sizeL_le {s : List Int} (hs : ByteL s) : ∀ (f a n g : Nat) {m a1 : Nat}, sizeL f s a n g = .ok (m, a1) → a ≤ s.length → n ≤ 4611686018427387903 → a1 ≤ s.length ∧ m ≤ 4611686018427387903
  | 0, a, n, g, m, a1, h, _, _ => by cases h
  | f + 1, a, n, g, m, a1, h, ha, hn => by
    unfold sizeL at h
    split at h
    · split at h
      · split at h
        · cases h
          exact ⟨ha, hn⟩
        · cases h
      · split at h
        · rename_i h1 h2 h3
          have hby := byteL_getD hs h1
          have hdg := (digit_eq hby.1 hby.2).2
          exact sizeL_le hs f _ _ _ h (by omega) (by omega)
        · cases h
    · cases h
theorem sizeM_le {s : List Int} (hs : ByteL s) {a m a1 : Nat} (h : sizeM s a = .ok (m, a1)) (ha : a ≤ s.length) : a1 ≤ s.length ∧ m ≤ 4611686018427387903 := sizeL_le hs _ _ _ _ h ha (by omega)
theorem extL_le {s : List Int} {e0 : Int} : ∀ (f a n : Nat) {u : Unit} {a1 : Nat}, extL f s e0 a n = .ok (u, a1) → a ≤ s.length → a1 ≤ s.length
  | 0, a, n, u, a1, h, ha => by cases h; exact ha
  | f + 1, a, n, u, a1, h, ha => by
    unfold extL at h
    split at h
    · split at h
      · split at h
        · exact extL_le f _ _ h (by omega)
        · cases h
      · cases h
        exact ha
    · cases h
theorem extM_le {s : List Int} {e0 : Int} {a : Nat} {u : Unit} {a1 : Nat} (h : extM s e0 a = .ok (u, a1)) (ha : a ≤ s.length) : a1 ≤ s.length := by
  unfold extM at h
  split at h
  · split at h
    · exact extL_le _ _ _ h ha
    · cases h
      exact ha
  · cases h
theorem byteM_le {s : List Int} {c : Int} {a : Nat} {u : Unit} {a1 : Nat} (h : byteM s c a = .ok (u, a1)) : a1 ≤ s.length := by
  unfold byteM at h
  split at h
  · split at h
    · cases h
      omega
    · cases h
  · cases h
theorem endM_le {s : List Int} {a : Nat} {u : Unit} {a1 : Nat} (h : endM s a = .ok (u, a1)) : a1 ≤ s.length := by
  unfold endM at h
  split at h
  · exact byteM_le h
  · cases h
def tailM (s : List Int) (m : Nat) (L : List Int) : RM Bool × List Int :=
  match endM s m with
  | .error x => (.error x, L)
  | .ok (_, a4) => (.ok (true, a4), L)
theorem tail_err {s : List Int} {m : Nat} {x : Nat × Int} (L : List Int) (h : endM s m = .error x) : tailM s m L = (.error x, L) := by unfold tailM; rw [h]
theorem tail_ok {s : List Int} {m : Nat} {u : Unit} {a : Nat} (L : List Int) (h : endM s m = .ok (u, a)) : tailM s m L = (.ok (true, a), L) := by unfold tailM; rw [h]
def chunkM (s : List Int) (e0 : Int) (a : Nat) : RM Bool × List Int :=
  match sizeM s a with
  | .error x => (.error x, [])
  | .ok (n, a1) => match extM s e0 a1 with
    | .error x => (.error x, [])
    | .ok (_, a2) => match endM s a2 with
      | .error x => (.error x, [])
      | .ok (_, a3) =>
        if n = 0 then (.ok (false, a3), [])
        else if n ≤ s.length - a3 then tailM s (a3 + n) ((s.take (a3 + n)).drop a3)
        else (.error (s.length, 4), s.drop a3)
theorem IsR.s5 {W : World} {b : Nat} {A : Option Addr} {n c : Nat} {e0 e1 e2 : Int} {at_ : Nat} {dv : Value} (h : IsR W b A n c e0 e1 e2 at_ dv) (v : Value) : IsR (W.setCell ⟨b, 5, none⟩ v) b A n c e0 e1 e2 at_ v := by
  unfold IsR; simpa using blk_set h 5 v
theorem RowD.far {W : World} {base b : Nat} {v : Value} {l : List Int} (h : RowD W base v l) (hne : v.ownBlock ≠ some b) (j : Nat) (u : Value) : RowD (W.setCell ⟨b, j, none⟩ u) base v l :=
  h.only (Only.set W j u) hne
theorem IsR.not_row {W : World} {b : Nat} {A : Option Addr} {n c : Nat} {e0 e1 e2 : Int} {at_ : Nat} {dv : Value} (h : IsR W b A n c e0 e1 e2 at_ dv) {base : Nat} {v : Value} {l : List Int} (hr : RowD W base v l) : v.ownBlock ≠ some b := fun e => by
  obtain ⟨_, cs, hc⟩ := hr.at b e
  have := hc.symm.trans h
  cases this
def Fore (b : Nat) (w W : World) : Prop := ∀ (k : Nat) (cs : Array Value) (t : TypeId), t ≠ 5 → k ≠ b → w.heap[k]? = some (.cells cs t (0, 0)) → W.heap[k]? = some (.cells cs t (0, 0))
theorem Fore.refl (b : Nat) (w : World) : Fore b w w := fun _ _ _ _ _ h => h
theorem Fore.trans {b : Nat} {w w1 w2 : World} (h : Fore b w w1) (k : Fore b w1 w2) : Fore b w w2 := fun x cs t ht hx hc => k x cs t ht hx (h x cs t ht hx hc)
theorem Fore.only {b : Nat} {w w1 : World} (h : Only b w w1) : Fore b w w1 := fun _ _ _ _ hx hc => h.blk hc hx
def DoesD {α : Type} (w : World) (B b : Nat) (A : Option Addr) (n c : Nat) (e0 e1 e2 : Int) (D : List Int) (enc : α → Value) (m : RM α) (e : Ending) (w' : World) : Prop :=
  ∃ dv, RowD w' B dv D ∧ (Below B w w' ∧ Fore b w w') ∧ (match m with
  | .ok (x, a) => e = .returned (enc x) ∧ IsR w' b A n c e0 e1 e2 a dv
  | .error (a, er) => e = gaveUp a er ∧ IsR w' b A n c e0 e1 e2 a dv)
structure AtR (w W : World) (B b : Nat) (A : Option Addr) (n c : Nat) (e0 e1 e2 : Int) (a : Nat) (dv : Value) (D : List Int) : Prop where
  i : IsR W b A n c e0 e1 e2 a dv
  r : RowD W B dv D
  f : Fore b w W
  b : Below B w W
theorem AtR.only {w W W1 : World} {B b : Nat} {A : Option Addr} {n c : Nat} {e0 e1 e2 : Int} {a a1 : Nat} {dv : Value} {D : List Int} (h : AtR w W B b A n c e0 e1 e2 a dv D) (hB : B ≤ b) (hi : IsR W1 b A n c e0 e1 e2 a1 dv) (ho : Only b W W1) : AtR w W1 B b A n c e0 e1 e2 a1 dv D :=
  ⟨hi, h.r.only ho (h.i.not_row h.r), h.f.trans (Fore.only ho), h.b.trans (ho.1.mono hB)⟩
theorem AtR.set4 {w W : World} {B b : Nat} {A : Option Addr} {n c : Nat} {e0 e1 e2 : Int} {a : Nat} {dv : Value} {D : List Int} (h : AtR w W B b A n c e0 e1 e2 a dv D) (hB : B ≤ b) (x : Nat) : AtR w (W.setCell ⟨b, 4, none⟩ (.int .i64 (x : Int))) B b A n c e0 e1 e2 x dv D :=
  h.only hB (h.i.s4 x) (Only.set W 4 _)
theorem AtR.then {w W W1 : World} {B b : Nat} {A : Option Addr} {n c : Nat} {e0 e1 e2 : Int} {a : Nat} {dv v1 : Value} {D D1 : List Int} (h : AtR w W B b A n c e0 e1 e2 a dv D) (hB : B ≤ b)
    (hr : RowD W1 B v1 D1) (hb : Below B W W1) (hk : ∀ x ob, W.heap[x]? = some ob → some x ≠ dv.ownBlock → W1.heap[x]? = some ob) : AtR w (W1.setCell ⟨b, 5, none⟩ v1) B b A n c e0 e1 e2 a v1 D1 := by
  have h1 : IsR W1 b A n c e0 e1 e2 a dv := hk b _ h.i (fun e => h.i.not_row h.r e.symm)
  refine ⟨h1.s5 v1, hr.far (h1.not_row hr) 5 v1, h.f.trans fun x cs t ht hx hc => ?_, (h.b.trans hb).trans ((Below.refl _ _).setCell (p := ⟨b, 5, none⟩) hB v1)⟩
  have hne : some x ≠ dv.ownBlock := fun e => by
    obtain ⟨_, cs', hc'⟩ := h.r.at x e.symm
    have := hc.symm.trans hc'
    injection this with this
    injection this with _ h2
    exact ht h2
  exact (Below.heap_setCell _ ⟨b, 5, none⟩ v1 x hx).trans (hk x _ hc hne)
attribute [local go_sem] min2_int min_two in
set_option maxHeartbeats 8000000 in
set_option maxRecDepth 100000 in
theorem chunk_does (B b : Nat) (A : Option Addr) (c : Nat) (e0 e1 e2 : Int) (a0 : Nat) (dv : Value) (s D : List Int) (w : World) (h : IsR w b A s.length c e0 e1 e2 a0 dv) (hR : RowD w B dv D) (hBb : B ≤ b) (hBw : B ≤ w.heap.size) (hC : Keeps B w fun W => Kd.C (Kd.int .u8) W A s.length s ∧ TabOk W) (hs : ByteL s) (hl : s.length ≤ 1073741824) (hD : D.length ≤ 1073741824) (hsc : s.length ≤ c) (ha0 : a0 ≤ s.length) :
    Calls Tryz.prog 38 #[.pointer (some ⟨b, 0, none⟩)] w (DoesD w B b A s.length c e0 e1 e2 (D ++ (chunkM s e0 a0).2) Value.bool (chunkM s e0 a0).1) := by
  have AT0 := Aside0.mk (show AtR w w B b A s.length c e0 e1 e2 a0 dv D from ⟨h, hR, Fore.refl _ _, Below.refl _ _⟩)
  have HK := Aside0.mk (fun (W : World) (a : Nat) (v : Value) (E : List Int) (hA : AtR w W B b A s.length c e0 e1 e2 a v E) => (fun W' hW => hC W' (hA.b.trans (hW.mono hBb)) : Keeps b W fun W => Kd.C (Kd.int .u8) W A s.length s ∧ TabOk W))
  have HK1 := Aside0.mk (fun (W : World) (a : Nat) (v : Value) (E : List Int) (hA : AtR w W B b A s.length c e0 e1 e2 a v E) => (fun W' hW => (hC W' (hA.b.trans (hW.mono hBb))).1 : Keeps b W fun W => Kd.C (Kd.int .u8) W A s.length s))
  have HS := Aside0.mk hs
  have H1 := size_does b A c e0 e1 e2 a0 dv s w h (HK.out w _ _ _ AT0.out) hs hl ha0
  clear h hR hC hs
  unfold chunkM
  cases hm1 : sizeM s a0 with
  | error x =>
    obtain ⟨a1, er⟩ := x
    rw [hm1] at H1
    clear hm1
    go_enter Tryz.func38, Tryz.ntmps38
    go_wp2_with fail
    refine H1.mono ?_
    rintro e w1 ⟨rfl, hi, ho⟩
    have A1 := AT0.out.only hBb hi ho
    exact ⟨rfl, dv, by simpa using A1.r, ⟨A1.b, A1.f⟩, rfl, A1.i⟩
  | ok x =>
    obtain ⟨n, a1⟩ := x
    rw [hm1] at H1
    have hle1 := sizeM_le HS.out hm1 ha0
    clear hm1
    have H2 := Aside0.mk (fun W (hA : AtR w W B b A s.length c e0 e1 e2 a1 dv D) => ext_does b A c e0 e1 e2 a1 dv s W hA.i (HK.out W _ _ _ hA) HS.out hl hle1.1)
    show Calls _ _ _ _ (DoesD w B b A s.length c e0 e1 e2 _ _ _)
    dsimp only
    cases hm2 : extM s e0 a1 with
    | error x =>
      obtain ⟨a2, er⟩ := x
      rw [hm2] at H2
      clear hm2
      go_enter Tryz.func38, Tryz.ntmps38
      go_wp2_with fail
      refine H1.mono ?_
      rintro e w1 ⟨rfl, hi, ho⟩
      have A1 := Aside0.mk (AT0.out.only hBb hi ho)
      clear hi ho H1
      have h2 := H2.out w1 A1.out
      go_wp2_with fail
      refine h2.mono ?_
      rintro e w2 ⟨rfl, hi, ho⟩
      have A2 := A1.out.only hBb hi ho
      exact ⟨rfl, dv, by simpa using A2.r, ⟨A2.b, A2.f⟩, rfl, A2.i⟩
    | ok x =>
      obtain ⟨u2, a2⟩ := x
      rw [hm2] at H2
      have hle2 := extM_le hm2 hle1.1
      clear hm2
      have H3 := Aside0.mk (fun W (hA : AtR w W B b A s.length c e0 e1 e2 a2 dv D) => end_does b A c e0 e1 e2 a2 dv s W hA.i (HK1.out W _ _ _ hA))
      dsimp only
      cases hm3 : endM s a2 with
      | error x =>
        obtain ⟨a3, er⟩ := x
        rw [hm3] at H3
        clear hm3
        go_enter Tryz.func38, Tryz.ntmps38
        go_wp2_with fail
        refine H1.mono ?_
        rintro e w1 ⟨rfl, hi, ho⟩
        have A1 := Aside0.mk (AT0.out.only hBb hi ho)
        clear hi ho H1
        have h2 := H2.out w1 A1.out
        go_wp2_with fail
        refine h2.mono ?_
        rintro e w2 ⟨rfl, hi, ho⟩
        have A2 := Aside0.mk (A1.out.only hBb hi ho)
        clear hi ho h2
        have h3 := H3.out w2 A2.out
        go_wp2_with fail
        refine h3.mono ?_
        rintro e w3 ⟨rfl, hi, ho⟩
        have A3 := A2.out.only hBb hi ho
        exact ⟨rfl, dv, by simpa using A3.r, ⟨A3.b, A3.f⟩, rfl, A3.i⟩
      | ok x =>
        obtain ⟨u3, a3⟩ := x
        rw [hm3] at H3
        have hle3 := endM_le hm3
        clear hm3
        dsimp only
        by_cases hn0 : n = 0
        · rw [if_pos hn0]
          subst hn0
          go_enter Tryz.func38, Tryz.ntmps38
          go_wp2_with fail
          refine H1.mono ?_
          rintro e w1 ⟨rfl, hi, ho⟩
          have A1 := Aside0.mk (AT0.out.only hBb hi ho)
          clear hi ho H1
          have h2 := H2.out w1 A1.out
          go_wp2_with fail
          refine h2.mono ?_
          rintro e w2 ⟨rfl, hi, ho⟩
          have A2 := Aside0.mk (A1.out.only hBb hi ho)
          clear hi ho h2
          have h3 := H3.out w2 A2.out
          go_wp2_with fail
          refine h3.mono ?_
          rintro e w3 ⟨rfl, hi, ho⟩
          have A3 := Aside0.mk (A2.out.only hBb hi ho)
          clear hi ho h3
          go_wp2
          go_ret
          exact ⟨dv, by simpa using A3.out.r, ⟨A3.out.b, A3.out.f⟩, rfl, A3.out.i⟩
        · rw [if_neg hn0]
          have hn0' : ((n : Int) == 0) = false := by rw [beq_eq_false_iff_ne]; omega
          have hw1 : IntKind.i64.wrap ((s.length : Int) - (a3 : Int)) = ((s.length - a3 : Nat) : Int) := by
            unfold IntKind.wrap
            simp [IntKind.bits, IntKind.signed]
            omega
          have hw2 : IntKind.u64.wrap ((s.length - a3 : Nat) : Int) = ((s.length - a3 : Nat) : Int) := by
            unfold IntKind.wrap
            simp [IntKind.bits, IntKind.signed]
            omega
          by_cases hle : n ≤ s.length - a3
          · rw [if_pos hle]
            have hmn : (if ((s.length - a3 : Nat) : Int) < (n : Int) then ((s.length - a3 : Nat) : Int) else (n : Int)) = (n : Int) := if_neg (by omega)
            have H4 := Aside0.mk (fun W (v : Value) (E : List Int) (hA : AtR w W B b A s.length c e0 e1 e2 (a3 + n) v E) => end_does b A c e0 e1 e2 (a3 + n) v s W hA.i (HK1.out W _ _ _ hA))
            have hw3 : IntKind.i64.wrap (n : Int) = (n : Int) := by
              unfold IntKind.wrap
              simp [IntKind.bits, IntKind.signed]
              omega
            have hw4 : IntKind.i64.wrap ((a3 : Int) + (n : Int)) = ((a3 + n : Nat) : Int) := by
              unfold IntKind.wrap
              simp [IntKind.bits, IntKind.signed]
              omega
            have hLl : ((s.take (a3 + n)).drop a3).length = n := by
              rw [List.length_drop, List.length_take]
              omega
            obtain ⟨A', c', hsl, hCl⟩ : ∃ A' c', (∀ W : World, (Instr.slice 25 (.slice A s.length c) (some (.int .i64 (a3 : Int))) (some (.int .i64 ((a3 + n : Nat) : Int))) none).run Tryz.prog W = .ok (.slice A' n c') W) ∧ Aside0 (∀ W, Kd.C (Kd.int .u8) W A s.length s → Kd.C (Kd.int .u8) W A' ((s.take (a3 + n)).drop a3).length ((s.take (a3 + n)).drop a3)) := by
              refine ⟨_, c - a3, fun W => ?_, ⟨fun W hW => Kd.C_mid (c := c) hW (by omega) (by omega) hsc⟩⟩
              have hq : (Tryz.prog.info? 5).map (fun i => i.size) = some 1 := by kernel_rfl
              obtain ⟨i, hi, hsz⟩ := Option.map_eq_some_iff.1 hq
              have := cut_mid (P := Tryz.prog) 25 5 .i64 .i64 Tryz.underlying25 hi 1 hsz A s.length c (a3 : Int) ((a3 + n : Nat) : Int) (by omega) (by omega) (by omega) hsc W
              rw [this]
              simp only [Int.toNat_natCast, show a3 + n - a3 = n by omega]
              rfl
            obtain ⟨L, hL⟩ : ∃ L, (s.take (a3 + n)).drop a3 = L := ⟨_, rfl⟩
            rw [hL] at hLl hCl
            rw [hL]
            clear hL
            obtain ⟨m, hm⟩ : ∃ m, a3 + n = m := ⟨_, rfl⟩
            rw [hm] at hw4 hsl H4
            rw [hm]
            go_enter Tryz.func38, Tryz.ntmps38
            go_wp2_with fail
            refine H1.mono ?_
            rintro e w1 ⟨rfl, hi, ho⟩
            have A1 := Aside0.mk (AT0.out.only hBb hi ho)
            clear hi ho H1
            have h2 := H2.out w1 A1.out
            go_wp2_with fail
            refine h2.mono ?_
            rintro e w2 ⟨rfl, hi, ho⟩
            have A2 := Aside0.mk (A1.out.only hBb hi ho)
            clear hi ho h2
            have h3 := H3.out w2 A2.out
            go_wp2_with fail
            refine h3.mono ?_
            rintro e w3 ⟨rfl, hi, ho⟩
            have A3 := Aside0.mk (A2.out.only hBb hi ho)
            clear hi ho h3
            have c0 := A3.out.i.c0
            have c4 := A3.out.i.c4
            have c5 := A3.out.i.c5
            have z5 := A3.out.i.fz 5
            go_wp2_with fail
            go_region_held3 (fun W => W.cell? ⟨b, 0, none⟩ = some (.slice A s.length c) ∧ W.cell? ⟨b, 4, none⟩ = some (.int .i64 (a3 : Int))) (exact ⟨c0, c4⟩) (fail)
            go_wp2_with fail
            have AD : AtR w w3.drew.drew B b A s.length c e0 e1 e2 a3 dv D := ⟨A3.out.i, A3.out.r, A3.out.f, below_drew (below_drew A3.out.b)⟩
            have HAD := Aside0.mk AD
            have HC3 := Aside0.mk (hCl.out w3.drew.drew (HK1.out _ _ _ _ AD _ (Below.refl _ _)))
            have hsz : B ≤ w3.drew.drew.heap.size := Nat.le_trans hBw AD.b.size
            clear AD
            refine wp_region_noPanic ?_
            refine wp_region_held_drew (S := (fun W => W.cell? ⟨b, 0, none⟩ = some (.slice A s.length c) ∧ W.cell? ⟨b, 4, none⟩ = some (.int .i64 (a3 : Int)))) (by kernel_rfl) ?_ (fun hHeld => ?_)
            · exact ⟨c0, c4⟩
            refine take_at (i := 0) (take_d rfl) ?_
            intro h_i
            refine wpAnyH_take (v := ?_) h_i (by kernel_rfl) (by kernel_rfl) (by kernel_rfl) (fun _ _ _ h => h) (Or.inl ⟨by rfl, ?_⟩) (by assumption) ?_
            case refine_2 => (intro w hSw; (try dsimp only at hSw); go_simp; (try with_reducible rfl))
            clear h_i
            try simp only [Act.put, List.setIfInBounds_toArray, List.set_cons_zero, List.set_cons_succ]
            refine take_at (i := 1) (take_d rfl) ?_
            intro h_i
            refine wpAnyH_take (v := ?_) h_i (by kernel_rfl) (by kernel_rfl) (by kernel_rfl) (fun _ _ _ h => h) (Or.inl ⟨by rfl, ?_⟩) (by assumption) ?_
            case refine_2 => (intro w hSw; (try dsimp only at hSw); go_simp; (try with_reducible rfl))
            clear h_i
            try simp only [Act.put, List.setIfInBounds_toArray, List.set_cons_zero, List.set_cons_succ]
            refine take_at (i := 2) (take_d rfl) ?_
            intro h_i
            refine wpAnyH_take (v := ?_) h_i (by kernel_rfl) (by kernel_rfl) (by kernel_rfl) (fun _ _ _ h => h) (Or.inl ⟨by rfl, ?_⟩) (by assumption) ?_
            case refine_2 => (intro w hSw; (try dsimp only at hSw); go_simp; (try with_reducible rfl))
            clear h_i
            try simp only [Act.put, List.setIfInBounds_toArray, List.set_cons_zero, List.set_cons_succ]
            refine take_at (i := 3) (take_d rfl) ?_
            intro h_i
            refine wpAnyH_take (v := ?_) h_i (by kernel_rfl) (by kernel_rfl) (by kernel_rfl) (fun _ _ _ h => h) (Or.inl ⟨by rfl, ?_⟩) (by assumption) ?_
            case refine_2 => (intro w hSw; (try dsimp only at hSw); go_simp; (try with_reducible rfl))
            clear h_i
            try simp only [Act.put, List.setIfInBounds_toArray, List.set_cons_zero, List.set_cons_succ]
            refine take_at (i := 5) (take_d rfl) ?_
            intro h_i
            refine wpAnyH_take (v := ?_) h_i (by kernel_rfl) (by kernel_rfl) (by kernel_rfl) (fun _ _ _ h => h) (Or.inl ⟨by rfl, ?_⟩) (by assumption) ?_
            case refine_2 => (intro w hSw; (try dsimp only at hSw); go_simp; (try with_reducible rfl))
            clear h_i
            try simp only [Act.put, List.setIfInBounds_toArray, List.set_cons_zero, List.set_cons_succ]
            refine take_at (i := 6) (take_d rfl) ?_
            intro h_i
            refine wpAnyH_take (v := ?_) h_i (by kernel_rfl) (by kernel_rfl) (by kernel_rfl) (fun _ _ _ h => h) (Or.inl ⟨by rfl, ?_⟩) (by assumption) ?_
            case refine_2 => (intro w hSw; (try dsimp only at hSw); go_simp; (try with_reducible rfl))
            clear h_i
            try simp only [Act.put, List.setIfInBounds_toArray, List.set_cons_zero, List.set_cons_succ]
            refine take_at (i := 7) (take_d rfl) ?_
            intro h_i
            refine wpAnyH_take (v := ?_) h_i (by kernel_rfl) (by kernel_rfl) (by kernel_rfl) (fun _ _ _ h => h) (Or.inl ⟨by rfl, ?_⟩) (by assumption) ?_
            case refine_2 => (intro w hSw; (try dsimp only at hSw); go_simp; (try with_reducible rfl))
            clear h_i
            try simp only [Act.put, List.setIfInBounds_toArray, List.set_cons_zero, List.set_cons_succ]
            refine take_at (i := 8) (take_d rfl) ?_
            intro h_i
            refine wpAnyH_take (v := ?_) h_i (by kernel_rfl) (by kernel_rfl) (by kernel_rfl) (fun _ _ _ h => h) (Or.inl ⟨by rfl, ?_⟩) (by assumption) ?_
            case refine_2 => (intro w hSw; (try dsimp only at hSw); go_simp; (try with_reducible rfl))
            clear h_i
            try simp only [Act.put, List.setIfInBounds_toArray, List.set_cons_zero, List.set_cons_succ]
            refine take_at (i := 9) (take_d rfl) ?_
            intro h_i
            refine wpAnyH_take (v := ?_) h_i (by kernel_rfl) (by kernel_rfl) (by kernel_rfl) (fun _ _ _ h => h) (Or.inl ⟨by rfl, ?_⟩) (by assumption) ?_
            case refine_2 => (intro w hSw; (try dsimp only at hSw); go_simp; (try with_reducible rfl))
            clear h_i
            try simp only [Act.put, List.setIfInBounds_toArray, List.set_cons_zero, List.set_cons_succ]
            refine take_at (i := 10) (take_d rfl) ?_
            intro h_i
            refine wpAnyH_take (v := ?_) h_i (by kernel_rfl) (by kernel_rfl) (by kernel_rfl) (fun _ _ _ h => h) (Or.inl ⟨by rfl, ?_⟩) (by assumption) ?_
            case refine_2 => (intro w hSw; (try dsimp only at hSw); go_simp; (try with_reducible rfl))
            clear h_i
            try simp only [Act.put, List.setIfInBounds_toArray, List.set_cons_zero, List.set_cons_succ]
            refine take_at (i := 11) (take_d rfl) ?_
            intro h_i
            refine wpAnyH_take (v := ?_) h_i (by kernel_rfl) (by kernel_rfl) (by kernel_rfl) (fun _ _ _ h => h) (Or.inl ⟨by rfl, ?_⟩) (by assumption) ?_
            case refine_2 => (intro w hSw; (try dsimp only at hSw); go_simp; (try with_reducible rfl))
            clear h_i
            try simp only [Act.put, List.setIfInBounds_toArray, List.set_cons_zero, List.set_cons_succ]
            refine take_at (i := 12) (take_d rfl) ?_
            intro h_i
            refine wpAnyH_take (v := ?_) h_i (by kernel_rfl) (by kernel_rfl) (by kernel_rfl) (fun _ _ _ h => h) (Or.inl ⟨by rfl, ?_⟩) (by assumption) ?_
            case refine_2 => (intro w hSw; (try dsimp only at hSw); go_simp; (try with_reducible rfl))
            clear h_i
            try simp only [Act.put, List.setIfInBounds_toArray, List.set_cons_zero, List.set_cons_succ]
            refine take_at (i := 13) (take_d rfl) ?_
            intro h_i
            refine wpAnyH_take (v := ?_) h_i (by kernel_rfl) (by kernel_rfl) (by kernel_rfl) (fun _ _ _ h => h) (Or.inl ⟨by rfl, ?_⟩) (by assumption) ?_
            case refine_2 => (intro w hSw; (try dsimp only at hSw); go_simp; (try with_reducible rfl))
            clear h_i
            try simp only [Act.put, List.setIfInBounds_toArray, List.set_cons_zero, List.set_cons_succ]
            refine take_at (i := 14) (take_d rfl) ?_
            intro h_i
            refine wpAnyH_take (v := ?_) h_i (by kernel_rfl) (by kernel_rfl) (by kernel_rfl) (fun _ _ _ h => h) (Or.inl ⟨by rfl, ?_⟩) (by assumption) ?_
            case refine_2 => (intro w hSw; (try dsimp only at hSw); go_simp; (try with_reducible rfl))
            clear h_i
            try simp only [Act.put, List.setIfInBounds_toArray, List.set_cons_zero, List.set_cons_succ]
            refine take_at (i := 15) (take_d rfl) ?_
            intro h_i
            refine wpAnyH_take (v := ?_) h_i (by kernel_rfl) (by kernel_rfl) (by kernel_rfl) (fun _ _ _ h => h) (Or.inl ⟨by rfl, ?_⟩) (by assumption) ?_
            case refine_2 => (intro w hSw; (try dsimp only at hSw); go_simp; (try with_reducible rfl))
            clear h_i
            try simp only [Act.put, List.setIfInBounds_toArray, List.set_cons_zero, List.set_cons_succ]
            refine take_at (i := 16) (take_d rfl) ?_
            intro h_i
            refine wpAnyH_take (v := ?_) h_i (by kernel_rfl) (by kernel_rfl) (by kernel_rfl) (fun _ _ _ h => h) (Or.inl ⟨by rfl, ?_⟩) (by assumption) ?_
            case refine_2 => (intro w hSw; (try dsimp only at hSw); go_simp; (try with_reducible rfl))
            clear h_i
            try simp only [Act.put, List.setIfInBounds_toArray, List.set_cons_zero, List.set_cons_succ]
            refine take_at (i := 17) (take_d rfl) ?_
            intro h_i
            refine wpAnyH_take (v := ?_) h_i (by kernel_rfl) (by kernel_rfl) (by kernel_rfl) (fun _ _ _ h => h) (Or.inl ⟨by rfl, ?_⟩) (by assumption) ?_
            case refine_2 => (intro w hSw; (try dsimp only at hSw); go_simp; (try with_reducible rfl))
            clear h_i
            try simp only [Act.put, List.setIfInBounds_toArray, List.set_cons_zero, List.set_cons_succ]
            refine take_at (i := 18) (take_d rfl) ?_
            intro h_i
            refine wpAnyH_take (v := ?_) h_i (by kernel_rfl) (by kernel_rfl) (by kernel_rfl) (fun _ _ _ h => h) (Or.inl ⟨by rfl, ?_⟩) (by assumption) ?_
            case refine_2 => (intro w hSw; (try dsimp only at hSw); go_simp; (try with_reducible rfl))
            clear h_i
            try simp only [Act.put, List.setIfInBounds_toArray, List.set_cons_zero, List.set_cons_succ]
            refine take_at (i := 19) (take_d rfl) ?_
            intro h_i
            refine wpAnyH_take (v := ?_) h_i (by kernel_rfl) (by kernel_rfl) (by kernel_rfl) (fun _ _ _ h => h) (Or.inl ⟨by rfl, ?_⟩) (by assumption) ?_
            case refine_2 => (intro w hSw; (try dsimp only at hSw); go_simp; (try with_reducible rfl))
            clear h_i
            try simp only [Act.put, List.setIfInBounds_toArray, List.set_cons_zero, List.set_cons_succ]
            refine take_at (i := 20) (take_d rfl) ?_
            intro h_i
            refine wpAnyH_take (v := ?_) h_i (by kernel_rfl) (by kernel_rfl) (by kernel_rfl) (fun _ _ _ h => h) (Or.inl ⟨by rfl, ?_⟩) (by assumption) ?_
            case refine_2 => (intro w hSw; (try dsimp only at hSw); go_simp; (try with_reducible rfl))
            clear h_i
            try simp only [Act.put, List.setIfInBounds_toArray, List.set_cons_zero, List.set_cons_succ]
            refine wpAnyH_ready (rs := [4]) (by kernel_rfl) (by simp) ?_
            refine AllReadyH.cons (take_d rfl) (fun zK hK => ?_) AllReadyH.nil
            go_simp
            skip
            refine hK.out _ _ ?_ (fun hHeld2 => ?_)
            · exact hHeld
            clear hK zK hHeld
            have hHeld := hHeld2
            clear hHeld2
            try simp only [Act.put, List.setIfInBounds_toArray, List.set_cons_zero, List.set_cons_succ]
            refine wpAnyH_ready (rs := [21]) (by kernel_rfl) (by simp) ?_
            refine AllReadyH.cons (take_d rfl) (fun zK hK => ?_) AllReadyH.nil
            (rw [if_pos (by rfl)]; refine wp_plusB (W0 := w3.drew.drew) B _ _ 25 (.int .u8 0) rfl Tryz.underlying25 (by kernel_rfl) (by rfl) dv D L A' c' rfl (by rw [hLl]; rfl) HAD.out.r HC3.out (Below.refl _ _) hsz (by omega) ?_; intro v1 w4 hv hb hz hk; obtain ⟨A1, k1, q1, _, _⟩ := hv.reads; rw [List.length_append, hLl] at q1; subst q1; have hI4 : IsR w4 b A s.length c e0 e1 e2 a3 dv := hk b _ HAD.out.i (fun e => HAD.out.i.not_row HAD.out.r e.symm); have n0 := hI4.c0; have n4 := hI4.c4; have n5 := hI4.c5; have y5 := hI4.fz 5; have o0 := (hI4.s5 (.slice A1 (D.length + n) k1)).c0; have o4 := (hI4.s5 (.slice A1 (D.length + n) k1)).c4; have AT5 := Aside0.mk (HAD.out.then hBb hv hb hk); clear hv hb hk hI4)
            refine hK.out _ _ ?_ (fun hHeld2 => ?_)
            · exact ⟨n0, n4⟩
            clear hK zK hHeld
            have hHeld := hHeld2
            clear hHeld2
            try simp only [Act.put, List.setIfInBounds_toArray, List.set_cons_zero, List.set_cons_succ]
            refine take_at (i := 22) (take_d rfl) ?_
            intro h_i
            refine wpAnyH_take (v := ?_) h_i (by kernel_rfl) (by kernel_rfl) (by kernel_rfl) (fun _ _ _ h => h) (Or.inl ⟨by rfl, ?_⟩) (by assumption) ?_
            case refine_2 => (intro w hSw; (try dsimp only at hSw); go_simp; (try with_reducible rfl))
            clear h_i
            try simp only [Act.put, List.setIfInBounds_toArray, List.set_cons_zero, List.set_cons_succ]
            refine take_at (i := 23) (take_d rfl) ?_
            intro h_i
            refine wpAnyH_take (v := ?_) h_i (by kernel_rfl) (by kernel_rfl) (by kernel_rfl) (fun _ _ _ h => h) (Or.inl ⟨by rfl, ?_⟩) (by assumption) ?_
            case refine_2 => (intro w hSw; (try dsimp only at hSw); go_simp; (try with_reducible rfl))
            clear h_i
            try simp only [Act.put, List.setIfInBounds_toArray, List.set_cons_zero, List.set_cons_succ]
            refine wpAnyH_ready (rs := [24]) (by kernel_rfl) (by simp) ?_
            refine AllReadyH.cons (take_d rfl) (fun zK hK => ?_) AllReadyH.nil
            go_simp
            skip
            refine hK.out _ _ ?_ (fun hHeld2 => ?_)
            · exact ⟨o0, o4⟩
            clear hK zK hHeld
            have hHeld := hHeld2
            clear hHeld2
            try simp only [Act.put, List.setIfInBounds_toArray, List.set_cons_zero, List.set_cons_succ]
            refine wpAnyH_done (by kernel_rfl) ?_ _
            refine NoPanic.normal ?_
            generalize w4.setCell ⟨b, 5, none⟩ (.slice A1 (D.length + n) k1) = w5 at *
            have d4 := AT5.out.i.c4
            have x4 := AT5.out.i.fz 4
            go_wp2_with fail
            have AT6 := Aside0.mk (AT5.out.set4 hBb m)
            generalize w5.setCell ⟨b, 4, none⟩ (.int .i64 (m : Int)) = w6 at *
            refine (must_on b 4 w6).mono ?_
            rintro e w7 ⟨rfl, rfl⟩
            have h4 := H4.out w7 _ _ AT6.out
            cases hm4 : endM s m with
            | error x =>
              obtain ⟨a4, er⟩ := x
              rw [hm4] at h4
              go_wp2_with fail
              refine h4.mono ?_
              rintro e w8 ⟨rfl, hi, ho⟩
              have A8 := AT6.out.only hBb hi ho
              refine ⟨rfl, ?_⟩
              show DoesD w B b A s.length c e0 e1 e2 (D ++ (tailM s m L).2) Value.bool (tailM s m L).1 _ _
              rw [tail_err L hm4]
              exact ⟨_, A8.r, ⟨A8.b, A8.f⟩, rfl, A8.i⟩
            | ok x =>
              obtain ⟨u4, a4⟩ := x
              rw [hm4] at h4
              go_wp2_with fail
              refine h4.mono ?_
              rintro e w8 ⟨rfl, hi, ho⟩
              have A8 := Aside0.mk (AT6.out.only hBb hi ho)
              clear hi ho h4
              go_wp2
              go_ret
              show DoesD w B b A s.length c e0 e1 e2 (D ++ (tailM s m L).2) Value.bool (tailM s m L).1 _ _
              rw [tail_ok L hm4]
              exact ⟨_, A8.out.r, ⟨A8.out.b, A8.out.f⟩, rfl, A8.out.i⟩
          · rw [if_neg hle]
            obtain ⟨r, hr⟩ : ∃ r, s.length - a3 = r := ⟨_, rfl⟩
            rw [hr] at hw1 hw2 hle
            have hmn : (if (r : Int) < (n : Int) then (r : Int) else (n : Int)) = (r : Int) := if_pos (by omega)
            have hne : ((r : Int) == (n : Int)) = false := by rw [beq_eq_false_iff_ne]; omega
            show Calls _ _ _ _ (DoesD w B b A s.length c e0 e1 e2 (D ++ s.drop a3) Value.bool (.error (s.length, 4)))
            have hw3 : IntKind.i64.wrap (r : Int) = (r : Int) := by
              unfold IntKind.wrap
              simp [IntKind.bits, IntKind.signed]
              omega
            have hw4 : IntKind.i64.wrap ((a3 : Int) + (r : Int)) = ((a3 + r : Nat) : Int) := by
              unfold IntKind.wrap
              simp [IntKind.bits, IntKind.signed]
              omega
            have hLl : ((s.take (a3 + r)).drop a3).length = r := by
              rw [List.length_drop, List.length_take]
              omega
            obtain ⟨A', c', hsl, hCl⟩ : ∃ A' c', (∀ W : World, (Instr.slice 25 (.slice A s.length c) (some (.int .i64 (a3 : Int))) (some (.int .i64 ((a3 + r : Nat) : Int))) none).run Tryz.prog W = .ok (.slice A' r c') W) ∧ Aside0 (∀ W, Kd.C (Kd.int .u8) W A s.length s → Kd.C (Kd.int .u8) W A' ((s.take (a3 + r)).drop a3).length ((s.take (a3 + r)).drop a3)) := by
              refine ⟨_, c - a3, fun W => ?_, ⟨fun W hW => Kd.C_mid (c := c) hW (by omega) (by omega) hsc⟩⟩
              have hq : (Tryz.prog.info? 5).map (fun i => i.size) = some 1 := by kernel_rfl
              obtain ⟨i, hi, hsz⟩ := Option.map_eq_some_iff.1 hq
              have := cut_mid (P := Tryz.prog) 25 5 .i64 .i64 Tryz.underlying25 hi 1 hsz A s.length c (a3 : Int) ((a3 + r : Nat) : Int) (by omega) (by omega) (by omega) hsc W
              rw [this]
              simp only [Int.toNat_natCast, show a3 + r - a3 = r by omega]
              rfl
            obtain ⟨L, hL⟩ : ∃ L, (s.take (a3 + r)).drop a3 = L := ⟨_, rfl⟩
            have hL' : L = s.drop a3 := by
              rw [← hL, List.take_of_length_le (by omega)]
            rw [hL] at hLl hCl
            clear hL
            obtain ⟨m, hm⟩ : ∃ m, a3 + r = m := ⟨_, rfl⟩
            rw [hm] at hw4 hsl
            have hm' : m = s.length := by omega
            have HM' := Aside0.mk hm'
            have HL' := Aside0.mk hL'
            have hrl : r ≤ s.length := by omega
            have HR' := Aside0.mk hr
            clear hm' hL' hr hm
            go_enter Tryz.func38, Tryz.ntmps38
            go_wp2_with fail
            refine H1.mono ?_
            rintro e w1 ⟨rfl, hi, ho⟩
            have A1 := Aside0.mk (AT0.out.only hBb hi ho)
            clear hi ho H1
            have h2 := H2.out w1 A1.out
            go_wp2_with fail
            refine h2.mono ?_
            rintro e w2 ⟨rfl, hi, ho⟩
            have A2 := Aside0.mk (A1.out.only hBb hi ho)
            clear hi ho h2
            have h3 := H3.out w2 A2.out
            go_wp2_with fail
            refine h3.mono ?_
            rintro e w3 ⟨rfl, hi, ho⟩
            have A3 := Aside0.mk (A2.out.only hBb hi ho)
            clear hi ho h3
            have c0 := A3.out.i.c0
            have c4 := A3.out.i.c4
            have c5 := A3.out.i.c5
            have z5 := A3.out.i.fz 5
            go_wp2_with fail
            go_region_held3 (fun W => W.cell? ⟨b, 0, none⟩ = some (.slice A s.length c) ∧ W.cell? ⟨b, 4, none⟩ = some (.int .i64 (a3 : Int))) (exact ⟨c0, c4⟩) (fail)
            go_wp2_with fail
            have AD : AtR w w3.drew.drew B b A s.length c e0 e1 e2 a3 dv D := ⟨A3.out.i, A3.out.r, A3.out.f, below_drew (below_drew A3.out.b)⟩
            have HAD := Aside0.mk AD
            have HC3 := Aside0.mk (hCl.out w3.drew.drew (HK1.out _ _ _ _ AD _ (Below.refl _ _)))
            have hsz : B ≤ w3.drew.drew.heap.size := Nat.le_trans hBw AD.b.size
            clear AD
            refine wp_region_noPanic ?_
            refine wp_region_held_drew (S := (fun W => W.cell? ⟨b, 0, none⟩ = some (.slice A s.length c) ∧ W.cell? ⟨b, 4, none⟩ = some (.int .i64 (a3 : Int)))) (by kernel_rfl) ?_ (fun hHeld => ?_)
            · exact ⟨c0, c4⟩
            refine take_at (i := 0) (take_d rfl) ?_
            intro h_i
            refine wpAnyH_take (v := ?_) h_i (by kernel_rfl) (by kernel_rfl) (by kernel_rfl) (fun _ _ _ h => h) (Or.inl ⟨by rfl, ?_⟩) (by assumption) ?_
            case refine_2 => (intro w hSw; (try dsimp only at hSw); go_simp; (try with_reducible rfl))
            clear h_i
            try simp only [Act.put, List.setIfInBounds_toArray, List.set_cons_zero, List.set_cons_succ]
            refine take_at (i := 1) (take_d rfl) ?_
            intro h_i
            refine wpAnyH_take (v := ?_) h_i (by kernel_rfl) (by kernel_rfl) (by kernel_rfl) (fun _ _ _ h => h) (Or.inl ⟨by rfl, ?_⟩) (by assumption) ?_
            case refine_2 => (intro w hSw; (try dsimp only at hSw); go_simp; (try with_reducible rfl))
            clear h_i
            try simp only [Act.put, List.setIfInBounds_toArray, List.set_cons_zero, List.set_cons_succ]
            refine take_at (i := 2) (take_d rfl) ?_
            intro h_i
            refine wpAnyH_take (v := ?_) h_i (by kernel_rfl) (by kernel_rfl) (by kernel_rfl) (fun _ _ _ h => h) (Or.inl ⟨by rfl, ?_⟩) (by assumption) ?_
            case refine_2 => (intro w hSw; (try dsimp only at hSw); go_simp; (try with_reducible rfl))
            clear h_i
            try simp only [Act.put, List.setIfInBounds_toArray, List.set_cons_zero, List.set_cons_succ]
            refine take_at (i := 3) (take_d rfl) ?_
            intro h_i
            refine wpAnyH_take (v := ?_) h_i (by kernel_rfl) (by kernel_rfl) (by kernel_rfl) (fun _ _ _ h => h) (Or.inl ⟨by rfl, ?_⟩) (by assumption) ?_
            case refine_2 => (intro w hSw; (try dsimp only at hSw); go_simp; (try with_reducible rfl))
            clear h_i
            try simp only [Act.put, List.setIfInBounds_toArray, List.set_cons_zero, List.set_cons_succ]
            refine take_at (i := 5) (take_d rfl) ?_
            intro h_i
            refine wpAnyH_take (v := ?_) h_i (by kernel_rfl) (by kernel_rfl) (by kernel_rfl) (fun _ _ _ h => h) (Or.inl ⟨by rfl, ?_⟩) (by assumption) ?_
            case refine_2 => (intro w hSw; (try dsimp only at hSw); go_simp; (try with_reducible rfl))
            clear h_i
            try simp only [Act.put, List.setIfInBounds_toArray, List.set_cons_zero, List.set_cons_succ]
            refine take_at (i := 6) (take_d rfl) ?_
            intro h_i
            refine wpAnyH_take (v := ?_) h_i (by kernel_rfl) (by kernel_rfl) (by kernel_rfl) (fun _ _ _ h => h) (Or.inl ⟨by rfl, ?_⟩) (by assumption) ?_
            case refine_2 => (intro w hSw; (try dsimp only at hSw); go_simp; (try with_reducible rfl))
            clear h_i
            try simp only [Act.put, List.setIfInBounds_toArray, List.set_cons_zero, List.set_cons_succ]
            refine take_at (i := 7) (take_d rfl) ?_
            intro h_i
            refine wpAnyH_take (v := ?_) h_i (by kernel_rfl) (by kernel_rfl) (by kernel_rfl) (fun _ _ _ h => h) (Or.inl ⟨by rfl, ?_⟩) (by assumption) ?_
            case refine_2 => (intro w hSw; (try dsimp only at hSw); go_simp; (try with_reducible rfl))
            clear h_i
            try simp only [Act.put, List.setIfInBounds_toArray, List.set_cons_zero, List.set_cons_succ]
            refine take_at (i := 8) (take_d rfl) ?_
            intro h_i
            refine wpAnyH_take (v := ?_) h_i (by kernel_rfl) (by kernel_rfl) (by kernel_rfl) (fun _ _ _ h => h) (Or.inl ⟨by rfl, ?_⟩) (by assumption) ?_
            case refine_2 => (intro w hSw; (try dsimp only at hSw); go_simp; (try with_reducible rfl))
            clear h_i
            try simp only [Act.put, List.setIfInBounds_toArray, List.set_cons_zero, List.set_cons_succ]
            refine take_at (i := 9) (take_d rfl) ?_
            intro h_i
            refine wpAnyH_take (v := ?_) h_i (by kernel_rfl) (by kernel_rfl) (by kernel_rfl) (fun _ _ _ h => h) (Or.inl ⟨by rfl, ?_⟩) (by assumption) ?_
            case refine_2 => (intro w hSw; (try dsimp only at hSw); go_simp; (try with_reducible rfl))
            clear h_i
            try simp only [Act.put, List.setIfInBounds_toArray, List.set_cons_zero, List.set_cons_succ]
            refine take_at (i := 10) (take_d rfl) ?_
            intro h_i
            refine wpAnyH_take (v := ?_) h_i (by kernel_rfl) (by kernel_rfl) (by kernel_rfl) (fun _ _ _ h => h) (Or.inl ⟨by rfl, ?_⟩) (by assumption) ?_
            case refine_2 => (intro w hSw; (try dsimp only at hSw); go_simp; (try with_reducible rfl))
            clear h_i
            try simp only [Act.put, List.setIfInBounds_toArray, List.set_cons_zero, List.set_cons_succ]
            refine take_at (i := 11) (take_d rfl) ?_
            intro h_i
            refine wpAnyH_take (v := ?_) h_i (by kernel_rfl) (by kernel_rfl) (by kernel_rfl) (fun _ _ _ h => h) (Or.inl ⟨by rfl, ?_⟩) (by assumption) ?_
            case refine_2 => (intro w hSw; (try dsimp only at hSw); go_simp; (try with_reducible rfl))
            clear h_i
            try simp only [Act.put, List.setIfInBounds_toArray, List.set_cons_zero, List.set_cons_succ]
            refine take_at (i := 12) (take_d rfl) ?_
            intro h_i
            refine wpAnyH_take (v := ?_) h_i (by kernel_rfl) (by kernel_rfl) (by kernel_rfl) (fun _ _ _ h => h) (Or.inl ⟨by rfl, ?_⟩) (by assumption) ?_
            case refine_2 => (intro w hSw; (try dsimp only at hSw); go_simp; (try with_reducible rfl))
            clear h_i
            try simp only [Act.put, List.setIfInBounds_toArray, List.set_cons_zero, List.set_cons_succ]
            refine take_at (i := 13) (take_d rfl) ?_
            intro h_i
            refine wpAnyH_take (v := ?_) h_i (by kernel_rfl) (by kernel_rfl) (by kernel_rfl) (fun _ _ _ h => h) (Or.inl ⟨by rfl, ?_⟩) (by assumption) ?_
            case refine_2 => (intro w hSw; (try dsimp only at hSw); go_simp; (try with_reducible rfl))
            clear h_i
            try simp only [Act.put, List.setIfInBounds_toArray, List.set_cons_zero, List.set_cons_succ]
            refine take_at (i := 14) (take_d rfl) ?_
            intro h_i
            refine wpAnyH_take (v := ?_) h_i (by kernel_rfl) (by kernel_rfl) (by kernel_rfl) (fun _ _ _ h => h) (Or.inl ⟨by rfl, ?_⟩) (by assumption) ?_
            case refine_2 => (intro w hSw; (try dsimp only at hSw); go_simp; (try with_reducible rfl))
            clear h_i
            try simp only [Act.put, List.setIfInBounds_toArray, List.set_cons_zero, List.set_cons_succ]
            refine take_at (i := 15) (take_d rfl) ?_
            intro h_i
            refine wpAnyH_take (v := ?_) h_i (by kernel_rfl) (by kernel_rfl) (by kernel_rfl) (fun _ _ _ h => h) (Or.inl ⟨by rfl, ?_⟩) (by assumption) ?_
            case refine_2 => (intro w hSw; (try dsimp only at hSw); go_simp; (try with_reducible rfl))
            clear h_i
            try simp only [Act.put, List.setIfInBounds_toArray, List.set_cons_zero, List.set_cons_succ]
            refine take_at (i := 16) (take_d rfl) ?_
            intro h_i
            refine wpAnyH_take (v := ?_) h_i (by kernel_rfl) (by kernel_rfl) (by kernel_rfl) (fun _ _ _ h => h) (Or.inl ⟨by rfl, ?_⟩) (by assumption) ?_
            case refine_2 => (intro w hSw; (try dsimp only at hSw); go_simp; (try with_reducible rfl))
            clear h_i
            try simp only [Act.put, List.setIfInBounds_toArray, List.set_cons_zero, List.set_cons_succ]
            refine take_at (i := 17) (take_d rfl) ?_
            intro h_i
            refine wpAnyH_take (v := ?_) h_i (by kernel_rfl) (by kernel_rfl) (by kernel_rfl) (fun _ _ _ h => h) (Or.inl ⟨by rfl, ?_⟩) (by assumption) ?_
            case refine_2 => (intro w hSw; (try dsimp only at hSw); go_simp; (try with_reducible rfl))
            clear h_i
            try simp only [Act.put, List.setIfInBounds_toArray, List.set_cons_zero, List.set_cons_succ]
            refine take_at (i := 18) (take_d rfl) ?_
            intro h_i
            refine wpAnyH_take (v := ?_) h_i (by kernel_rfl) (by kernel_rfl) (by kernel_rfl) (fun _ _ _ h => h) (Or.inl ⟨by rfl, ?_⟩) (by assumption) ?_
            case refine_2 => (intro w hSw; (try dsimp only at hSw); go_simp; (try with_reducible rfl))
            clear h_i
            try simp only [Act.put, List.setIfInBounds_toArray, List.set_cons_zero, List.set_cons_succ]
            refine take_at (i := 19) (take_d rfl) ?_
            intro h_i
            refine wpAnyH_take (v := ?_) h_i (by kernel_rfl) (by kernel_rfl) (by kernel_rfl) (fun _ _ _ h => h) (Or.inl ⟨by rfl, ?_⟩) (by assumption) ?_
            case refine_2 => (intro w hSw; (try dsimp only at hSw); go_simp; (try with_reducible rfl))
            clear h_i
            try simp only [Act.put, List.setIfInBounds_toArray, List.set_cons_zero, List.set_cons_succ]
            refine take_at (i := 20) (take_d rfl) ?_
            intro h_i
            refine wpAnyH_take (v := ?_) h_i (by kernel_rfl) (by kernel_rfl) (by kernel_rfl) (fun _ _ _ h => h) (Or.inl ⟨by rfl, ?_⟩) (by assumption) ?_
            case refine_2 => (intro w hSw; (try dsimp only at hSw); go_simp; (try with_reducible rfl))
            clear h_i
            try simp only [Act.put, List.setIfInBounds_toArray, List.set_cons_zero, List.set_cons_succ]
            refine wpAnyH_ready (rs := [4]) (by kernel_rfl) (by simp) ?_
            refine AllReadyH.cons (take_d rfl) (fun zK hK => ?_) AllReadyH.nil
            go_simp
            skip
            refine hK.out _ _ ?_ (fun hHeld2 => ?_)
            · exact hHeld
            clear hK zK hHeld
            have hHeld := hHeld2
            clear hHeld2
            try simp only [Act.put, List.setIfInBounds_toArray, List.set_cons_zero, List.set_cons_succ]
            refine wpAnyH_ready (rs := [21]) (by kernel_rfl) (by simp) ?_
            refine AllReadyH.cons (take_d rfl) (fun zK hK => ?_) AllReadyH.nil
            (rw [if_pos (by rfl)]; refine wp_plusB (W0 := w3.drew.drew) B _ _ 25 (.int .u8 0) rfl Tryz.underlying25 (by kernel_rfl) (by rfl) dv D L A' c' rfl (by rw [hLl]; rfl) HAD.out.r HC3.out (Below.refl _ _) hsz (by omega) ?_; intro v1 w4 hv hb hz hk; obtain ⟨A1, k1, q1, _, _⟩ := hv.reads; rw [List.length_append, hLl] at q1; subst q1; have hI4 : IsR w4 b A s.length c e0 e1 e2 a3 dv := hk b _ HAD.out.i (fun e => HAD.out.i.not_row HAD.out.r e.symm); have n0 := hI4.c0; have n4 := hI4.c4; have n5 := hI4.c5; have y5 := hI4.fz 5; have o0 := (hI4.s5 (.slice A1 (D.length + r) k1)).c0; have o4 := (hI4.s5 (.slice A1 (D.length + r) k1)).c4; have AT5 := Aside0.mk (HAD.out.then hBb hv hb hk); clear hv hb hk hI4)
            refine hK.out _ _ ?_ (fun hHeld2 => ?_)
            · exact ⟨n0, n4⟩
            clear hK zK hHeld
            have hHeld := hHeld2
            clear hHeld2
            try simp only [Act.put, List.setIfInBounds_toArray, List.set_cons_zero, List.set_cons_succ]
            refine take_at (i := 22) (take_d rfl) ?_
            intro h_i
            refine wpAnyH_take (v := ?_) h_i (by kernel_rfl) (by kernel_rfl) (by kernel_rfl) (fun _ _ _ h => h) (Or.inl ⟨by rfl, ?_⟩) (by assumption) ?_
            case refine_2 => (intro w hSw; (try dsimp only at hSw); go_simp; (try with_reducible rfl))
            clear h_i
            try simp only [Act.put, List.setIfInBounds_toArray, List.set_cons_zero, List.set_cons_succ]
            refine take_at (i := 23) (take_d rfl) ?_
            intro h_i
            refine wpAnyH_take (v := ?_) h_i (by kernel_rfl) (by kernel_rfl) (by kernel_rfl) (fun _ _ _ h => h) (Or.inl ⟨by rfl, ?_⟩) (by assumption) ?_
            case refine_2 => (intro w hSw; (try dsimp only at hSw); go_simp; (try with_reducible rfl))
            clear h_i
            try simp only [Act.put, List.setIfInBounds_toArray, List.set_cons_zero, List.set_cons_succ]
            refine wpAnyH_ready (rs := [24]) (by kernel_rfl) (by simp) ?_
            refine AllReadyH.cons (take_d rfl) (fun zK hK => ?_) AllReadyH.nil
            go_simp
            skip
            refine hK.out _ _ ?_ (fun hHeld2 => ?_)
            · exact ⟨o0, o4⟩
            clear hK zK hHeld
            have hHeld := hHeld2
            clear hHeld2
            try simp only [Act.put, List.setIfInBounds_toArray, List.set_cons_zero, List.set_cons_succ]
            refine wpAnyH_done (by kernel_rfl) ?_ _
            refine NoPanic.normal ?_
            generalize w4.setCell ⟨b, 5, none⟩ (.slice A1 (D.length + r) k1) = w5 at *
            have d4 := AT5.out.i.c4
            have x4 := AT5.out.i.fz 4
            go_wp2_with fail
            have AT6 := Aside0.mk (AT5.out.set4 hBb m)
            generalize w5.setCell ⟨b, 4, none⟩ (.int .i64 (m : Int)) = w6 at *
            refine (must_off b m 4 w6 AT6.out.i.c4).mono ?_
            rintro e w7 ⟨rfl, rfl⟩
            refine ⟨rfl, ?_⟩
            have eM := HM'.out
            have eL := HL'.out
            subst eM
            subst eL
            exact ⟨_, AT6.out.r, ⟨AT6.out.b, AT6.out.f⟩, rfl, AT6.out.i⟩
end Go.Proofs.YtmmbpbgcobmifaaGreatDoorH
end
