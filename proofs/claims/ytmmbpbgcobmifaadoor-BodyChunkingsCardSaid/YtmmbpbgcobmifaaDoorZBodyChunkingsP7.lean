import Derived.Test.YtmmbpbgcobmifaaDoorZBodyChunkingsP3
import Derived.Test.YtmmbpbgcobmifaaDoorZBodyChunkingsP6
import Derived.Test.YtmmbpbgcobmifaaDoorZBodyChunkingsP1
import Derived.Test.YtmmbpbgcobmifaaDoorZBodyChunkingsP5
import Derived.ProofKit
import Derived.OpenShut
import Derived.Deep.Slices
import Derived.SizedLaws
import Derived.Lib.ConvBytes
import Derived.Lib.SlBytesConst
import Derived.Laws.BytesArg
namespace Go.Proofs.YtmmbpbgcobmifaaDoorH
end Go.Proofs.YtmmbpbgcobmifaaDoorH
namespace Go.Proofs.YtmmbpbgcobmifaaDoorW.PrintWords
end Go.Proofs.YtmmbpbgcobmifaaDoorW.PrintWords
namespace Go.Proofs.YtmmbpbgcobmifaaDoorW.PrintLast
end Go.Proofs.YtmmbpbgcobmifaaDoorW.PrintLast
namespace Go.Proofs.YtmmbpbgcobmifaaDoorW.PrintMore
end Go.Proofs.YtmmbpbgcobmifaaDoorW.PrintMore
namespace Go.Proofs.YtmmbpbgcobmifaaDoor.Pr
end Go.Proofs.YtmmbpbgcobmifaaDoor.Pr
namespace Go.Proofs.YtmmbpbgcobmifaaDoorM
end Go.Proofs.YtmmbpbgcobmifaaDoorM
section
namespace Go.Proofs.YtmmbpbgcobmifaaDoor.Pr
open Go.RowKit Go.Proofs.YtmmbpbgcobmifaaDoorH Go.Proofs.YtmmbpbgcobmifaaDoorW.PrintWords Go.Proofs.YtmmbpbgcobmifaaDoorW.PrintLast Go.Proofs.YtmmbpbgcobmifaaDoorW.PrintMore
attribute [local go_sem] max2_int min2_int max_two min_two max_three min_three max_four min_four   -- for this text's walks alone
set_option linter.unusedVariables false
set_option linter.unusedSimpArgs false
def catchpitlaw08_same.f (k : Nat) (l0_0 : List Int) (l0_1 : List (S53)) (a0_2 : Int) (l1_0 : List Int) (l1_1 : List (S53)) (a1_2 : Int) : Option (Bool) := (catchpitref08_Same.f k l0_0 l1_0).bind fun t270 => (if t270 = true then ((catchpitref05_Fields.f k l0_1 l1_1).bind fun t271 => (if t271 = true then (some (a0_2 == a1_2)) else (some false))) else (some false))
theorem catchpitlaw08_same.mono : ∀ a0 a1 a2 a3 a4 a5 k, LeO (catchpitlaw08_same.f k a0 a1 a2 a3 a4 a5) (catchpitlaw08_same.f (k + 1) a0 a1 a2 a3 a4 a5) := by
  intro a0 a1 a2 a3 a4 a5 k
  unfold catchpitlaw08_same.f
  repeat' first
      | (with_reducible exact catchpitref05_Fields.mono _ _ _)
      | (with_reducible exact catchpitref08_Same.mono _ _ _)
      | (with_reducible exact LeO.refl _)
      | (with_reducible exact LeO.none _)
      | (with_reducible refine LeO.ite ?_ ?_)
      | (with_reducible refine LeO.bind ?_ (fun _ => ?_))
      | exact catchpitref05_Fields.mono _ _ _
      | exact catchpitref08_Same.mono _ _ _
      | exact LeO.none _
      | refine LeO.ite ?_ ?_
      | refine LeO.bind ?_ (fun _ => ?_)
end Go.Proofs.YtmmbpbgcobmifaaDoor.Pr
end
section
namespace Go.Proofs.YtmmbpbgcobmifaaDoor.Pr
open Go.RowKit Go.Proofs.YtmmbpbgcobmifaaDoorH Go.Proofs.YtmmbpbgcobmifaaDoorW.PrintWords Go.Proofs.YtmmbpbgcobmifaaDoorW.PrintLast Go.Proofs.YtmmbpbgcobmifaaDoorW.PrintMore
attribute [local go_sem] max2_int min2_int max_two min_two max_three min_three max_four min_four   -- for this text's walks alone
set_option linter.unusedVariables false
set_option linter.unusedSimpArgs false
def catchpitref08_Right.f (a0_0 : Int) (a0_1 : Int) (a0_2 : Int) : Option (Bool) := if a0_0 ≥ 0 then (if a0_0 ≤ 65536 then (if a0_1 ≥ 0 then (if a0_1 ≤ 65536 then (if a0_2 ≥ 0 then (some (decide (a0_2 ≤ 65536))) else (some false)) else (some false)) else (some false)) else (some false)) else (some false)
end Go.Proofs.YtmmbpbgcobmifaaDoor.Pr
end
section
namespace Go.Proofs.YtmmbpbgcobmifaaDoor.Pr
end Go.Proofs.YtmmbpbgcobmifaaDoor.Pr
namespace Go.Proofs.YtmmbpbgcobmifaaDoorH
open Go.RowKit Go.Proofs.YtmmbpbgcobmifaaDoorW.PrintWords Go.Proofs.YtmmbpbgcobmifaaDoorW.PrintLast Go.Proofs.YtmmbpbgcobmifaaDoorW.PrintMore Go.Proofs.YtmmbpbgcobmifaaDoor.Pr Go.Proofs.YtmmbpbgcobmifaaDoorM
theorem rd_sameM (l : List Int) (i : Nat) : rd l (i : Int) = l.getD i 0 := by
  unfold rd
  rw [Int.toNat_natCast]
theorem SameM_l0 (l0 l1 : List Int) (he : l0.length = l1.length) (hl : l0.length ≤ 1000000) : ∀ (d i k : Nat), l0.length - i = d → i ≤ l0.length → d < k → catchpitref03_Same.l0 k l0 l1 (i : Int) = some (decide (l0.drop i = l1.drop i))
  | 0, i, k, h1, h2, h3 => by
    obtain ⟨k, rfl⟩ : ∃ m, k = m + 1 := ⟨k - 1, by omega⟩
    rw [catchpitref03_Same.l0, if_neg (by omega), List.drop_eq_nil_of_le (by omega), List.drop_eq_nil_of_le (by omega)]
    rfl
  | d + 1, i, k, h1, h2, h3 => by
    obtain ⟨k, rfl⟩ : ∃ m, k = m + 1 := ⟨k - 1, by omega⟩
    have hw : wrap64 ((i : Int) + 1) = ((i + 1 : Nat) : Int) := by unfold wrap64; omega
    have e0 : l0.drop i = l0.getD i 0 :: l0.drop (i + 1) := by
      rw [List.getD_eq_getElem?_getD, List.getElem?_eq_getElem (by omega)]
      exact List.drop_eq_getElem_cons (by omega)
    have e1 : l1.drop i = l1.getD i 0 :: l1.drop (i + 1) := by
      rw [List.getD_eq_getElem?_getD, List.getElem?_eq_getElem (by omega)]
      exact List.drop_eq_getElem_cons (by omega)
    rw [catchpitref03_Same.l0, if_pos (by omega), if_pos (by omega), if_pos (by omega), rd_sameM, rd_sameM, hw, e0, e1]
    by_cases h : l0.getD i 0 = l1.getD i 0
    · rw [if_pos h, SameM_l0 l0 l1 he hl d (i + 1) k (by omega) (by omega) (by omega), h]
      simp
    · rw [if_neg h, decide_eq_false (fun e => h (List.cons.inj e).1)]
theorem SameM_eq (l0 l1 : List Int) (hl : l0.length ≤ 1000000) (k : Nat) (hk : l0.length < k) : catchpitref03_Same.f k l0 l1 = some (decide (l0 = l1)) := by
  unfold catchpitref03_Same.f
  by_cases he : l0.length = l1.length
  · rw [if_pos (by omega)]
    have := SameM_l0 l0 l1 he hl l0.length 0 k (by omega) (by omega) hk
    rwa [List.drop_zero, List.drop_zero] at this
  · rw [if_neg (by omega), decide_eq_false (fun e => he (by rw [e]))]
theorem Same8_eq (l0 l1 : List Int) (hl : l0.length ≤ 1000000) (k : Nat) (hk : l0.length < k) : catchpitref08_Same.f k l0 l1 = some (decide (l0 = l1)) := by
  unfold catchpitref08_Same.f
  rw [SameM_eq l0 l1 hl k hk]
  rfl
end Go.Proofs.YtmmbpbgcobmifaaDoorH
end
section
namespace Go.Proofs.YtmmbpbgcobmifaaDoorH
open Go.RowKit Go.Proofs.YtmmbpbgcobmifaaDoorW.PrintWords Go.Proofs.YtmmbpbgcobmifaaDoorW.PrintLast Go.Proofs.YtmmbpbgcobmifaaDoorW.PrintMore
def hexD (n : Nat) : Int := if n < 10 then 48 + n else 87 + n
def hexL (n : Nat) : List Int := if _h : n < 16 then [hexD n] else hexL (n / 16) ++ [hexD (n % 16)]
termination_by n
decreasing_by omega
theorem hexL_lt {n : Nat} (h : n < 16) : hexL n = [hexD n] := by rw [hexL, dif_pos h]
theorem hexL_ge {n : Nat} (h : 16 ≤ n) : hexL n = hexL (n / 16) ++ [hexD (n % 16)] := by rw [hexL, dif_neg (by omega)]
theorem hexL_pos (n : Nat) : 1 ≤ (hexL n).length := by
  by_cases h : n < 16
  · rw [hexL_lt h]; exact Nat.le_refl _
  · rw [hexL_ge (by omega), List.length_append, List.length_singleton]; omega
theorem hexL_le : ∀ (k n : Nat), n < 16 ^ (k + 1) → (hexL n).length ≤ k + 1
  | 0, n, h => by
    rw [hexL_lt (by simpa using h)]
    exact Nat.le_refl _
  | k + 1, n, h => by
    by_cases h2 : n < 16
    · rw [hexL_lt h2]
      simp
    · rw [hexL_ge (by omega), List.length_append, List.length_singleton]
      have := hexL_le k (n / 16) (by
        rw [Nat.div_lt_iff_lt_mul (by decide)]
        calc n < 16 ^ (k + 1 + 1) := h
          _ = 16 ^ (k + 1) * 16 := Nat.pow_succ ..)
      omega
theorem hexL_le16 {n : Nat} (h : n < 18446744073709551616) : (hexL n).length ≤ 16 := hexL_le 15 n (by simpa using h)
theorem hexD_ok {n : Nat} (h : n < 16) : 0 ≤ hexD n ∧ hexD n ≤ 255 := by
  unfold hexD
  split <;> omega
end Go.Proofs.YtmmbpbgcobmifaaDoorH
end
section
namespace Go.Proofs.YtmmbpbgcobmifaaDoor.Pr
open Go.RowKit Go.Proofs.YtmmbpbgcobmifaaDoorH Go.Proofs.YtmmbpbgcobmifaaDoorW.PrintWords Go.Proofs.YtmmbpbgcobmifaaDoorW.PrintLast Go.Proofs.YtmmbpbgcobmifaaDoorW.PrintMore
attribute [local go_sem] max2_int min2_int max_two min_two max_three min_three max_four min_four   -- for this text's walks alone
set_option linter.unusedVariables false
set_option linter.unusedSimpArgs false
def catchpitref01_Put.f : Nat → Int → Option (ByteArray)
  | 0, _ => none
  | k + 1, a0 => if a0 < 16 then (if 0 ≤ (wrap64 (Int.tmod a0 16)) then (if (wrap64 (Int.tmod a0 16)) ≤ (wrap64 ((wrap64 (Int.tmod a0 16)) + 1)) then (if (wrap64 ((wrap64 (Int.tmod a0 16)) + 1)) ≤ 16 then (some ((⟨#[48, 49, 50, 51, 52, 53, 54, 55, 56, 57, 97, 98, 99, 100, 101, 102]⟩ : ByteArray).extract ((wrap64 (Int.tmod a0 16)) : Int).toNat ((wrap64 ((wrap64 (Int.tmod a0 16)) + 1)) : Int).toNat)) else (none)) else (none)) else (none)) else ((catchpitref01_Put.f k (IntKind.u64.wrap (Int.tdiv a0 16))).bind fun t288 => (if 0 ≤ (wrap64 (Int.tmod a0 16)) then (if (wrap64 (Int.tmod a0 16)) ≤ (wrap64 ((wrap64 (Int.tmod a0 16)) + 1)) then (if (wrap64 ((wrap64 (Int.tmod a0 16)) + 1)) ≤ 16 then (if t288.size + ((⟨#[48, 49, 50, 51, 52, 53, 54, 55, 56, 57, 97, 98, 99, 100, 101, 102]⟩ : ByteArray).extract ((wrap64 (Int.tmod a0 16)) : Int).toNat ((wrap64 ((wrap64 (Int.tmod a0 16)) + 1)) : Int).toNat).size ≤ 9223372036854775807 then (some (t288 ++ ((⟨#[48, 49, 50, 51, 52, 53, 54, 55, 56, 57, 97, 98, 99, 100, 101, 102]⟩ : ByteArray).extract ((wrap64 (Int.tmod a0 16)) : Int).toNat ((wrap64 ((wrap64 (Int.tmod a0 16)) + 1)) : Int).toNat))) else (none)) else (none)) else (none)) else (none)))
theorem catchpitref01_Put.mono_l : ∀ k, (∀ y0, LeO (catchpitref01_Put.f k y0) (catchpitref01_Put.f (k + 1) y0))
  | 0 => fun _ r h => by simp [catchpitref01_Put.f] at h
  | k + 1 => by
    have ih0 := catchpitref01_Put.mono_l k
    · intro y0
      unfold catchpitref01_Put.f
      repeat' first
      | (with_reducible exact ih0 _)
      | (with_reducible exact LeO.refl _)
      | (with_reducible exact LeO.none _)
      | (with_reducible refine LeO.ite ?_ ?_)
      | (with_reducible refine LeO.bind ?_ (fun _ => ?_))
      | exact ih0 _
      | exact LeO.none _
      | refine LeO.ite ?_ ?_
      | refine LeO.bind ?_ (fun _ => ?_)
theorem catchpitref01_Put.mono : ∀ a0 k, LeO (catchpitref01_Put.f k a0) (catchpitref01_Put.f (k + 1) a0) := by
  intro a0 k
  have ih0 := catchpitref01_Put.mono_l k
  exact ih0 a0
def catchpitref01_Put.T5 : Bool × List (List Nat × List Nat) := (true, [([], []), ([0], [0]), ([1], [1]), ([], []), ([], []), ([], []), ([5], [5]), ([3, 4, 6], [3, 4, 6]), ([2, 7], [2, 7]), ([8, 2, 0, 1, 2, 3, 4, 5, 6, 7, 8], [8])])
def catchpitref01_Put.B5 : List Nat := [0, 1, 3, 0, 0, 0, 32, 120, 255, 511]
theorem catchpitref01_Put.tab5 : rtab .any (opsOf Tryd.f45 5) = catchpitref01_Put.T5 := by kernel_rfl
theorem catchpitref01_Put.bits5 : waitsOk catchpitref01_Put.T5.2 catchpitref01_Put.B5 = true := by kernel_rfl
set_option maxHeartbeats 8000000 in
set_option maxRecDepth 100000 in
theorem catchpitref01_Put.calls (k : Nat) : ∀ (a0 : Int) (r : ByteArray) (w : World) (hG : TabOk w) (h : catchpitref01_Put.f k a0 = some r),
    Calls Tryd.prog 45 #[.int .u64 a0] w fun e w' => e = .returned (.string r) ∧ Below w.heap.size w w' := by
  induction k using Nat.strongRecOn with
  | _ k ih =>
  intro a0 r w hG h
  cases k with
  | zero => exact absurd h (by simp [catchpitref01_Put.f])
  | succ k =>
  simp only [catchpitref01_Put.f] at h
  have HB := Aside0.mk (Below.refl w.heap.size w)
  have H : (if a0 < 16 then (if 0 ≤ (wrap64 (Int.tmod a0 16)) then (if (wrap64 (Int.tmod a0 16)) ≤ (wrap64 ((wrap64 (Int.tmod a0 16)) + 1)) then (if (wrap64 ((wrap64 (Int.tmod a0 16)) + 1)) ≤ 16 then (some ((⟨#[48, 49, 50, 51, 52, 53, 54, 55, 56, 57, 97, 98, 99, 100, 101, 102]⟩ : ByteArray).extract ((wrap64 (Int.tmod a0 16)) : Int).toNat ((wrap64 ((wrap64 (Int.tmod a0 16)) + 1)) : Int).toNat)) else (none)) else (none)) else (none)) else ((catchpitref01_Put.f k (IntKind.u64.wrap (Int.tdiv a0 16))).bind fun t288 => (if 0 ≤ (wrap64 (Int.tmod a0 16)) then (if (wrap64 (Int.tmod a0 16)) ≤ (wrap64 ((wrap64 (Int.tmod a0 16)) + 1)) then (if (wrap64 ((wrap64 (Int.tmod a0 16)) + 1)) ≤ 16 then (if t288.size + ((⟨#[48, 49, 50, 51, 52, 53, 54, 55, 56, 57, 97, 98, 99, 100, 101, 102]⟩ : ByteArray).extract ((wrap64 (Int.tmod a0 16)) : Int).toNat ((wrap64 ((wrap64 (Int.tmod a0 16)) + 1)) : Int).toNat).size ≤ 9223372036854775807 then (some (t288 ++ ((⟨#[48, 49, 50, 51, 52, 53, 54, 55, 56, 57, 97, 98, 99, 100, 101, 102]⟩ : ByteArray).extract ((wrap64 (Int.tmod a0 16)) : Int).toNat ((wrap64 ((wrap64 (Int.tmod a0 16)) + 1)) : Int).toNat))) else (none)) else (none)) else (none)) else (none)))) = some r := h
  clear h
  by_cases c2 : a0 < 16
  · rw [if_pos c2] at H
    have c2b0 : decide (a0 < 16) = true := decide_eq_true c2
    clear c2
    obtain ⟨ji3, hji3⟩ : ∃ j_ : Int, (wrap64 (Int.tmod a0 16)) = j_ := ⟨_, rfl⟩
    replace H : (if 0 ≤ (ji3) then (if (ji3) ≤ (wrap64 ((ji3) + 1)) then (if (wrap64 ((ji3) + 1)) ≤ 16 then (some ((⟨#[48, 49, 50, 51, 52, 53, 54, 55, 56, 57, 97, 98, 99, 100, 101, 102]⟩ : ByteArray).extract ((ji3) : Int).toNat ((wrap64 ((ji3) + 1)) : Int).toNat)) else (none)) else (none)) else (none)) = some r := by first | (rw [hji3] at H; exact H) | (simp only [hji3] at H ⊢; exact H)
    have hji3w : (IntKind.i64.wrap (Int.tmod a0 16)) = ji3 := (i64_w _).trans hji3
    by_cases c4 : 0 ≤ (ji3)
    · rw [if_pos c4] at H
      have c4b0 := eq_true c4
      have c4b1 : decide (0 ≤ (ji3)) = true := decide_eq_true c4
      clear c4
      by_cases c5 : (ji3) ≤ (wrap64 ((ji3) + 1))
      · rw [if_pos c5] at H
        have c5b0 := eq_true c5
        have c5b1 : decide ((ji3) ≤ (wrap64 ((ji3) + 1))) = true := decide_eq_true c5
        by_cases c6 : (wrap64 ((ji3) + 1)) ≤ 16
        · rw [if_pos c6] at H
          have c6b0 := eq_true c6
          have c6b1 : decide ((wrap64 ((ji3) + 1)) ≤ 16) = true := decide_eq_true c6
          obtain rfl := Option.some.inj H
          go_enter Tryd.func45, Tryd.ntmps45
          go_wp2
          go_ret
          exact ⟨by first | rfl | (simp [errW_none, errW_some] <;> rfl) | (simp only [← hji3]; first | rfl | (simp [errW_none, errW_some] <;> rfl)) | (simp [*, errW_none, errW_some] <;> rfl), by repeat (first | (with_reducible first | exact HB.out | apply below_alloc | apply pw_below_drewN | apply below_drew1) | exact HB.out)⟩
        · rw [if_neg c6] at H
          exact absurd H (by simp)
      · rw [if_neg c5] at H
        exact absurd H (by simp)
    · rw [if_neg c4] at H
      exact absurd H (by simp)
  · rw [if_neg c2] at H
    have c2b0 : decide (a0 < 16) = false := decide_eq_false c2
    clear c2
    replace H := Option.bind_eq_some_iff.mp H
    obtain ⟨t288, A70, H⟩ := H
    replace H : (if 0 ≤ (wrap64 (Int.tmod a0 16)) then (if (wrap64 (Int.tmod a0 16)) ≤ (wrap64 ((wrap64 (Int.tmod a0 16)) + 1)) then (if (wrap64 ((wrap64 (Int.tmod a0 16)) + 1)) ≤ 16 then (if t288.size + ((⟨#[48, 49, 50, 51, 52, 53, 54, 55, 56, 57, 97, 98, 99, 100, 101, 102]⟩ : ByteArray).extract ((wrap64 (Int.tmod a0 16)) : Int).toNat ((wrap64 ((wrap64 (Int.tmod a0 16)) + 1)) : Int).toNat).size ≤ 9223372036854775807 then (some (t288 ++ ((⟨#[48, 49, 50, 51, 52, 53, 54, 55, 56, 57, 97, 98, 99, 100, 101, 102]⟩ : ByteArray).extract ((wrap64 (Int.tmod a0 16)) : Int).toNat ((wrap64 ((wrap64 (Int.tmod a0 16)) + 1)) : Int).toNat))) else (none)) else (none)) else (none)) else (none)) = some r := H
    have A7 := Aside0.mk A70
    clear A70
    obtain ⟨ji8, hji8⟩ : ∃ j_ : Int, (wrap64 (Int.tmod a0 16)) = j_ := ⟨_, rfl⟩
    replace H : (if 0 ≤ (ji8) then (if (ji8) ≤ (wrap64 ((ji8) + 1)) then (if (wrap64 ((ji8) + 1)) ≤ 16 then (if t288.size + ((⟨#[48, 49, 50, 51, 52, 53, 54, 55, 56, 57, 97, 98, 99, 100, 101, 102]⟩ : ByteArray).extract ((ji8) : Int).toNat ((wrap64 ((ji8) + 1)) : Int).toNat).size ≤ 9223372036854775807 then (some (t288 ++ ((⟨#[48, 49, 50, 51, 52, 53, 54, 55, 56, 57, 97, 98, 99, 100, 101, 102]⟩ : ByteArray).extract ((ji8) : Int).toNat ((wrap64 ((ji8) + 1)) : Int).toNat))) else (none)) else (none)) else (none)) else (none)) = some r := by first | (rw [hji8] at H; exact H) | (simp only [hji8] at H ⊢; exact H)
    (try rw [hji8] at A7)
    have hji8w : (IntKind.i64.wrap (Int.tmod a0 16)) = ji8 := (i64_w _).trans hji8
    by_cases c9 : 0 ≤ (ji8)
    · rw [if_pos c9] at H
      have c9b0 := eq_true c9
      have c9b1 : decide (0 ≤ (ji8)) = true := decide_eq_true c9
      clear c9
      by_cases c10 : (ji8) ≤ (wrap64 ((ji8) + 1))
      · rw [if_pos c10] at H
        have c10b0 := eq_true c10
        have c10b1 : decide ((ji8) ≤ (wrap64 ((ji8) + 1))) = true := decide_eq_true c10
        by_cases c11 : (wrap64 ((ji8) + 1)) ≤ 16
        · rw [if_pos c11] at H
          have c11b0 := eq_true c11
          have c11b1 : decide ((wrap64 ((ji8) + 1)) ≤ 16) = true := decide_eq_true c11
          by_cases c12 : t288.size + ((⟨#[48, 49, 50, 51, 52, 53, 54, 55, 56, 57, 97, 98, 99, 100, 101, 102]⟩ : ByteArray).extract ((ji8) : Int).toNat ((wrap64 ((ji8) + 1)) : Int).toNat).size ≤ 9223372036854775807
          · rw [if_pos c12] at H
            have c12b0 := eq_true c12
            try simp only [ByteArray.size_append, ByteArray.size_extract, Nat.min_self] at c12b0
            have c12b1 : decide (t288.size + ((⟨#[48, 49, 50, 51, 52, 53, 54, 55, 56, 57, 97, 98, 99, 100, 101, 102]⟩ : ByteArray).extract ((ji8) : Int).toNat ((wrap64 ((ji8) + 1)) : Int).toNat).size ≤ 9223372036854775807) = true := decide_eq_true c12
            try simp only [ByteArray.size_append, ByteArray.size_extract, Nat.min_self] at c12b1
            try have c12b2 : (9223372036854775807 < t288.size + ((⟨#[48, 49, 50, 51, 52, 53, 54, 55, 56, 57, 97, 98, 99, 100, 101, 102]⟩ : ByteArray).extract ((ji8) : Int).toNat ((wrap64 ((ji8) + 1)) : Int).toNat).size) = False := eq_false (Nat.not_lt.2 c12)
            try simp only [ByteArray.size_append, ByteArray.size_extract, Nat.min_self] at c12b2
            have c12b3 : (9223372036854775807 < t288.size + ((wrap64 (ji8 + 1)).toNat - ji8.toNat)) = False := by
              refine eq_false ?_
              have hq := c12
              rw [ByteArray.size_extract, show (⟨#[48, 49, 50, 51, 52, 53, 54, 55, 56, 57, 97, 98, 99, 100, 101, 102]⟩ : ByteArray).size = 16 from rfl] at hq
              omega
            obtain rfl := Option.some.inj H
            go_enter Tryd.func45, Tryd.ntmps45
            try go_wp2
            have n0_ := Aside0.mk (below_drew1 HB.out)
            clear HB
            have HB := n0_
            clear n0_
            refine start_ (n := 10) (S := fun w' => True) (ds := []) #[false, false, false, false, false, false, false, false, false, false] (by kernel_rfl) rfl rfl trivial (fun hHeld => ?_); refine with_tabW catchpitref01_Put.tab5 catchpitref01_Put.bits5 (fun HT_ HW_ => ?_)
            generalize w.drew = w13 at HB hHeld ⊢
            refine pure_ (i := 0) (N := some 15) (v := ?_) (a' := ?_) #[true, false, false, false, false, false, false, false, false, false] rfl rfl (any_of HT_.out (by kernel_rfl)) (fun _ _ _ h => h) (Or.inl ⟨by rfl, ?_⟩) ?_ ?_
            rotate_left
            · intro w'
              go_simp
              with_reducible rfl
            rotate_left
            · simp only [Act.put, List.setIfInBounds_toArray, List.set_cons_zero, List.set_cons_succ, i64_w, i32_w]
              rfl
            refine pure_ (i := 1) (N := some 16) (v := ?_) (a' := ?_) #[true, true, false, false, false, false, false, false, false, false] rfl rfl (any_of HT_.out (by kernel_rfl)) (fun _ _ _ h => h) (Or.inl ⟨by rfl, ?_⟩) ?_ ?_
            rotate_left
            · intro w'
              go_simp
              with_reducible rfl
            rotate_left
            · simp only [Act.put, List.setIfInBounds_toArray, List.set_cons_zero, List.set_cons_succ, i64_w, i32_w]
              rfl
            refine pure_ (i := 3) (N := some 18) (v := ?_) (a' := ?_) #[true, true, false, true, false, false, false, false, false, false] rfl rfl (any_of HT_.out (by kernel_rfl)) (fun _ _ _ h => h) (Or.inl ⟨by rfl, ?_⟩) ?_ ?_
            rotate_left
            · intro w'
              go_simp
              with_reducible rfl
            rotate_left
            · simp only [Act.put, List.setIfInBounds_toArray, List.set_cons_zero, List.set_cons_succ, i64_w, i32_w]
              rfl
            refine pure_ (i := 4) (N := some 19) (v := ?_) (a' := ?_) #[true, true, false, true, true, false, false, false, false, false] rfl rfl (any_of HT_.out (by kernel_rfl)) (fun _ _ _ h => h) (Or.inl ⟨by rfl, ?_⟩) ?_ ?_
            rotate_left
            · intro w'
              go_simp
              with_reducible rfl
            rotate_left
            · simp only [Act.put, List.setIfInBounds_toArray, List.set_cons_zero, List.set_cons_succ, i64_w, i32_w]
              rfl
            refine pure_ (i := 5) (N := some 20) (v := ?_) (a' := ?_) #[true, true, false, true, true, true, false, false, false, false] rfl rfl (any_of HT_.out (by kernel_rfl)) (fun _ _ _ h => h) (Or.inl ⟨by rfl, ?_⟩) ?_ ?_
            rotate_left
            · intro w'
              go_simp
              with_reducible rfl
            rotate_left
            · simp only [Act.put, List.setIfInBounds_toArray, List.set_cons_zero, List.set_cons_succ, i64_w, i32_w]
              rfl
            refine pure_ (i := 6) (N := some 21) (v := ?_) (a' := ?_) #[true, true, false, true, true, true, true, false, false, false] rfl rfl (any_of HT_.out (by kernel_rfl)) (fun _ _ _ h => h) (Or.inl ⟨by rfl, ?_⟩) ?_ ?_
            rotate_left
            · intro w'
              go_simp
              with_reducible rfl
            rotate_left
            · simp only [Act.put, List.setIfInBounds_toArray, List.set_cons_zero, List.set_cons_succ, i64_w, i32_w]
              rfl
            refine pure_ (i := 7) (N := some 22) (v := ?_) (a' := ?_) #[true, true, false, true, true, true, true, true, false, false] rfl rfl (any_of HT_.out (by kernel_rfl)) (fun _ _ _ h => h) (Or.inl ⟨by rfl, ?_⟩) ?_ ?_
            rotate_left
            · intro w'
              go_simp
              with_reducible rfl
            rotate_left
            · simp only [Act.put, List.setIfInBounds_toArray, List.set_cons_zero, List.set_cons_succ, i64_w, i32_w]
              rfl
            refine one_ (i := 2) (N := some 17) #[true, true, true, true, true, true, true, true, false, false] rfl rfl (one_of HT_.out (by kernel_rfl)) (by decide) (fun K hK => ?_)
            refine goes_ Tryd.func45 (by kernel_rfl) rfl #[.int .u64 (IntKind.u64.wrap (Int.tdiv a0 16))] (by rfl) rfl rfl (by (try simp only [List.map_toArray, List.map_cons, List.map_nil]); first | done | rfl | (simp only [List.length_drop, List.length_take]; rfl)) ?_
            with_reducible refine (ih k (by omega) (IntKind.u64.wrap (Int.tdiv a0 16)) t288 _ ?side1 A7.out).mono ?_
            (case side1 => first | exact hG | exact TabOk.drewN hG _ | exact TabOk.drewN (TabOk.drewN hG _) _ | exact TabOk.below hG (by repeat (first | (with_reducible first | exact HB.out | apply below_alloc | apply pw_below_drewN | apply below_drew1) | exact HB.out)))
            rintro e w14 ⟨rfl, hb⟩
            refine ⟨_, rfl, ?_⟩
            have n0_ := Aside0.mk (below_step (by repeat (first | (with_reducible first | exact HB.out | apply below_alloc | apply pw_below_drewN | apply below_drew1) | exact HB.out)) hb)
            clear HB
            have HB := n0_
            clear n0_
            (try clear hb)
            (try clear hb2)
            (try clear hk)
            (try clear hi)
            refine hK.out _ _ trivial (fun hHeld => ?_)
            clear hK K
            refine norm_ (a' := ?_) ?_ ?_
            rotate_left
            · show Act.put _ (some 17) _ = _
              simp only [Act.put, List.setIfInBounds_toArray, List.set_cons_zero, List.set_cons_succ, i64_w, i32_w]
              rfl
            refine pure_ (i := 8) (N := some 23) (v := ?_) (a' := ?_) #[true, true, true, true, true, true, true, true, true, false] rfl rfl (any_of HT_.out (by kernel_rfl)) (fun _ _ _ h => h) (Or.inl ⟨by rfl, ?_⟩) ?_ ?_
            rotate_left
            · intro w'
              go_simp
              with_reducible rfl
            rotate_left
            · simp only [Act.put, List.setIfInBounds_toArray, List.set_cons_zero, List.set_cons_succ, i64_w, i32_w]
              rfl
            refine pure_ (i := 9) (N := some 2) (v := ?_) (a' := ?_) #[true, true, true, true, true, true, true, true, true, true] rfl rfl (any_of HT_.out (by kernel_rfl)) (fun _ _ _ h => h) (Or.inl ⟨by rfl, ?_⟩) ?_ ?_
            rotate_left
            · intro w'
              go_simp
              with_reducible rfl
            rotate_left
            · simp only [Act.put, List.setIfInBounds_toArray, List.set_cons_zero, List.set_cons_succ, i64_w, i32_w]
              rfl
            refine done_ (done_of HT_.out (by kernel_rfl)) ?_
            try go_wp2
            go_ret
            exact ⟨by first | rfl | (simp [errW_none, errW_some] <;> rfl) | (simp only [← hji8]; first | rfl | (simp [errW_none, errW_some] <;> rfl)) | (simp [*, errW_none, errW_some] <;> rfl), by repeat (first | (with_reducible first | exact HB.out | apply below_alloc | apply pw_below_drewN | apply below_drew1) | exact HB.out)⟩
          · rw [if_neg c12] at H
            exact absurd H (by simp)
        · rw [if_neg c11] at H
          exact absurd H (by simp)
      · rw [if_neg c10] at H
        exact absurd H (by simp)
    · rw [if_neg c9] at H
      exact absurd H (by simp)
end Go.Proofs.YtmmbpbgcobmifaaDoor.Pr
end
section
namespace Go.Proofs.YtmmbpbgcobmifaaDoor.Pr
end Go.Proofs.YtmmbpbgcobmifaaDoor.Pr
namespace Go.Proofs.YtmmbpbgcobmifaaDoorH
open Go.RowKit Go.Proofs.YtmmbpbgcobmifaaDoorW.PrintWords Go.Proofs.YtmmbpbgcobmifaaDoorW.PrintLast Go.Proofs.YtmmbpbgcobmifaaDoorW.PrintMore Go.Proofs.YtmmbpbgcobmifaaDoor.Pr
def hexS (n : Nat) : ByteArray := strOfNums (hexL n)
theorem hexS_size (n : Nat) : (hexS n).size = (hexL n).length := strOfNums_size _
theorem hexL_bytes (n : Nat) : ByteL (hexL n) := by
  induction n using Nat.strongRecOn with
  | ind n ih =>
    by_cases h : n < 16
    · rw [hexL_lt h]
      intro x hx
      rw [List.mem_singleton.1 hx]
      exact hexD_ok h
    · rw [hexL_ge (by omega)]
      intro x hx
      rcases List.mem_append.1 hx with hx | hx
      · exact ih (n / 16) (by omega) x hx
      · rw [List.mem_singleton.1 hx]
        exact hexD_ok (Nat.mod_lt _ (by decide))
theorem strBytes (n : Nat) : ofU8 (hexS n).data.toList = hexL n := ofU8_u8s (hexL_bytes n)
theorem bytesOf_hexS (n : Nat) : bytesOf (hexS n) = hexL n := strBytes n
abbrev digs16 : ByteArray := ⟨#[48, 49, 50, 51, 52, 53, 54, 55, 56, 57, 97, 98, 99, 100, 101, 102]⟩
theorem dig_one (d : Nat) (h : d < 16) : digs16.extract d (d + 1) = strOfNums [hexD d] := by
  have : d = 0 ∨ d = 1 ∨ d = 2 ∨ d = 3 ∨ d = 4 ∨ d = 5 ∨ d = 6 ∨ d = 7 ∨ d = 8 ∨ d = 9 ∨ d = 10 ∨ d = 11 ∨ d = 12 ∨ d = 13 ∨ d = 14 ∨ d = 15 := by omega
  rcases this with rfl | rfl | rfl | rfl | rfl | rfl | rfl | rfl | rfl | rfl | rfl | rfl | rfl | rfl | rfl | rfl <;> decide
theorem strOfNums_append (a b : List Int) : strOfNums (a ++ b) = strOfNums a ++ strOfNums b := by
  apply ByteArray.ext
  apply Array.toList_inj.1
  show _ = (strOfNums a).data.toList ++ (strOfNums b).data.toList
  rw [strOfNums_data, strOfNums_data, strOfNums_data, List.map_append]
theorem ref01_Put (n : Nat) (hn : n < 4611686018427387904) : ∀ k, (hexL n).length ≤ k → catchpitref01_Put.f k (n : Int) = some (hexS n) := by
  induction n using Nat.strongRecOn with
  | ind n ih =>
    intro k hk
    have hp := hexL_pos n
    obtain ⟨k, rfl⟩ : ∃ m, k = m + 1 := ⟨k - 1, by omega⟩
    have ht : Int.tmod (n : Int) 16 = ((n % 16 : Nat) : Int) := by rw [Int.tmod_eq_emod_of_nonneg (by omega)]; omega
    have hd : Int.tdiv (n : Int) 16 = ((n / 16 : Nat) : Int) := by rw [Int.tdiv_eq_ediv_of_nonneg (by omega)]; omega
    have hm : n % 16 < 16 := Nat.mod_lt _ (by decide)
    have hw0 : wrap64 ((n % 16 : Nat) : Int) = ((n % 16 : Nat) : Int) := by unfold wrap64; omega
    have hw1 : wrap64 (((n % 16 : Nat) : Int) + 1) = ((n % 16 + 1 : Nat) : Int) := by unfold wrap64; omega
    rw [catchpitref01_Put.f, ht, hd, hw0, hw1]
    have hdg := dig_one (n % 16) hm
    by_cases h : n < 16
    · rw [if_pos (by omega), if_pos (by omega), if_pos (by omega), if_pos (by omega), Int.toNat_natCast, Int.toNat_natCast, hdg]
      unfold hexS
      rw [hexL_lt h, Nat.mod_eq_of_lt h]
    · have hg := hexL_ge (show 16 ≤ n by omega)
      have hk2 : (hexL (n / 16)).length ≤ k := by
        rw [hg, List.length_append, List.length_singleton] at hk
        omega
      have hwu : IntKind.u64.wrap ((n / 16 : Nat) : Int) = ((n / 16 : Nat) : Int) := by
        rw [IntKind.wrap_u64]
        omega
      have h16 := hexL_le16 (n := n / 16) (by omega)
      rw [if_neg (by omega), hwu, ih (n / 16) (by omega) (by omega) k hk2, Option.bind_some, if_pos (by omega), if_pos (by omega), if_pos (by omega), Int.toNat_natCast, Int.toNat_natCast, hdg]
      rw [if_pos (by rw [hexS_size, strOfNums_size, List.length_singleton]; omega)]
      unfold hexS
      rw [hg, strOfNums_append]
end Go.Proofs.YtmmbpbgcobmifaaDoorH
end
section
namespace Go.Proofs.YtmmbpbgcobmifaaDoor.Pr
open Go.RowKit Go.Proofs.YtmmbpbgcobmifaaDoorH Go.Proofs.YtmmbpbgcobmifaaDoorW.PrintWords Go.Proofs.YtmmbpbgcobmifaaDoorW.PrintLast Go.Proofs.YtmmbpbgcobmifaaDoorW.PrintMore
attribute [local go_sem] max2_int min2_int max_two min_two max_three min_three max_four min_four   -- for this text's walks alone
set_option linter.unusedVariables false
set_option linter.unusedSimpArgs false
def catchpitref05_Put.f (a0_0 : ByteArray) (a0_1 : ByteArray) : Option (ByteArray) := if (a0_1.size : Int) = 0 then (if a0_0.size + 1 ≤ 9223372036854775807 then (some (a0_0 ++ (⟨#[58]⟩ : ByteArray))) else (none)) else (if a0_0.size + 2 ≤ 9223372036854775807 then (if (a0_0 ++ (⟨#[58, 32]⟩ : ByteArray)).size + a0_1.size ≤ 9223372036854775807 then (some ((a0_0 ++ (⟨#[58, 32]⟩ : ByteArray)) ++ a0_1)) else (none)) else (none))
set_option maxHeartbeats 8000000 in
set_option maxRecDepth 100000 in
theorem catchpitref05_Put.calls (a0_0 : ByteArray) (a0_1 : ByteArray) (r : ByteArray) (w : World) (hG : TabOk w) (h : catchpitref05_Put.f a0_0 a0_1 = some r) :
    Calls Tryd.prog 46 #[.agg #[.string a0_0, .string a0_1]] w fun e w' => e = .returned (.string r) ∧ Below w.heap.size w w' := by
  have hu53 := Tryd.underlying53
  have HB := Aside0.mk (Below.refl w.heap.size w)
  have H : (if (a0_1.size : Int) = 0 then (if a0_0.size + 1 ≤ 9223372036854775807 then (some (a0_0 ++ (⟨#[58]⟩ : ByteArray))) else (none)) else (if a0_0.size + 2 ≤ 9223372036854775807 then (if (a0_0 ++ (⟨#[58, 32]⟩ : ByteArray)).size + a0_1.size ≤ 9223372036854775807 then (some ((a0_0 ++ (⟨#[58, 32]⟩ : ByteArray)) ++ a0_1)) else (none)) else (none))) = some r := h
  clear h
  by_cases c2 : (a0_1.size : Int) = 0
  · rw [if_pos c2] at H
    have c2b0 : ((a0_1.size : Int) == 0) = true := beq_iff_eq.mpr c2
    have c2b1 : ((a0_1.size : Int) != 0) = false := bne_eq_false_iff_eq.mpr c2
    clear c2
    by_cases c3 : a0_0.size + 1 ≤ 9223372036854775807
    · rw [if_pos c3] at H
      have c3b0 := eq_true c3
      have c3b1 : decide (a0_0.size + 1 ≤ 9223372036854775807) = true := decide_eq_true c3
      try have c3b2 : (9223372036854775807 < a0_0.size + 1) = False := eq_false (Nat.not_lt.2 c3)
      obtain rfl := Option.some.inj H
      go_enter Tryd.func46, Tryd.ntmps46
      go_wp2_with (first | ((with_reducible refine gate_dst (N := 1) rfl ?_); refine box_event ?hg (N := 1) ?hd (cs := #[.string a0_0, .string a0_1]) (t := 53) ?hr ?_; (case hd => rfl); (case hg => rfl); (case hr => first | (go_simp; done) | (go_simp; rfl)); intro gb289 hg w4 hbox hb; have n0_ := Aside0.mk (below_step (by repeat (first | (with_reducible first | exact HB.out | apply below_alloc | apply pw_below_drewN | apply below_drew1) | exact HB.out)) hb); have n1_ := Aside0.mk (hbox); have n2_ := Aside0.mk ((by rw [hg]; exact (below_size (by repeat (first | (with_reducible first | exact HB.out | apply below_alloc | apply pw_below_drewN | apply below_drew1) | exact HB.out))) : w.heap.size ≤ gb289)); have n3_ := Aside0.mk ((by rw [hg]; exact (below_size (by repeat (first | (with_reducible first | exact HB.out | apply below_alloc | apply pw_below_drewN | apply below_drew1) | exact HB.out))) : w.heap.size ≤ gb289)); clear HB; have HB := n0_; have BK289 := n1_; have GW289 := n2_; have GE289 := n3_; clear n0_ n1_ n2_ n3_; clear hb hbox hg; have hcz5_0 : w4.cell? ⟨gb289, 0, none⟩ = some (.string a0_0) := (blk_cell BK289.out 0).trans rfl; have hcz5_1 : w4.cell? ⟨gb289, 1, none⟩ = some (.string a0_1) := (blk_cell BK289.out 1).trans rfl; have hfz5_0 := blk_frozen BK289.out 0; have hfz5_1 := blk_frozen BK289.out 1))
      go_ret
      exact ⟨by first | rfl | (simp [errW_none, errW_some] <;> rfl) | (simp [*, errW_none, errW_some] <;> rfl), by repeat (first | (with_reducible first | exact HB.out | apply below_alloc | apply pw_below_drewN | apply below_drew1 | refine below_set ?_ GE289.out) | exact HB.out)⟩
    · rw [if_neg c3] at H
      exact absurd H (by simp)
  · rw [if_neg c2] at H
    have c2b0 : ((a0_1.size : Int) == 0) = false := beq_eq_false_iff_ne.mpr c2
    have c2b1 : ((a0_1.size : Int) != 0) = true := bne_iff_ne.mpr c2
    by_cases c6 : a0_0.size + 2 ≤ 9223372036854775807
    · rw [if_pos c6] at H
      have c6b0 := eq_true c6
      have c6b1 : decide (a0_0.size + 2 ≤ 9223372036854775807) = true := decide_eq_true c6
      try have c6b2 : (9223372036854775807 < a0_0.size + 2) = False := eq_false (Nat.not_lt.2 c6)
      by_cases c7 : (a0_0 ++ (⟨#[58, 32]⟩ : ByteArray)).size + a0_1.size ≤ 9223372036854775807
      · rw [if_pos c7] at H
        have c7b0 := eq_true c7
        try simp only [ByteArray.size_append, ByteArray.size_extract, Nat.min_self] at c7b0
        have c7b1 : decide ((a0_0 ++ (⟨#[58, 32]⟩ : ByteArray)).size + a0_1.size ≤ 9223372036854775807) = true := decide_eq_true c7
        try simp only [ByteArray.size_append, ByteArray.size_extract, Nat.min_self] at c7b1
        try have c7b2 : (9223372036854775807 < (a0_0 ++ (⟨#[58, 32]⟩ : ByteArray)).size + a0_1.size) = False := eq_false (Nat.not_lt.2 c7)
        try simp only [ByteArray.size_append, ByteArray.size_extract, Nat.min_self] at c7b2
        obtain rfl := Option.some.inj H
        go_enter Tryd.func46, Tryd.ntmps46
        go_wp2_with (first | ((with_reducible refine gate_dst (N := 1) rfl ?_); refine box_event ?hg (N := 1) ?hd (cs := #[.string a0_0, .string a0_1]) (t := 53) ?hr ?_; (case hd => rfl); (case hg => rfl); (case hr => first | (go_simp; done) | (go_simp; rfl)); intro gb289 hg w8 hbox hb; have n0_ := Aside0.mk (below_step (by repeat (first | (with_reducible first | exact HB.out | apply below_alloc | apply pw_below_drewN | apply below_drew1) | exact HB.out)) hb); have n1_ := Aside0.mk (hbox); have n2_ := Aside0.mk ((by rw [hg]; exact (below_size (by repeat (first | (with_reducible first | exact HB.out | apply below_alloc | apply pw_below_drewN | apply below_drew1) | exact HB.out))) : w.heap.size ≤ gb289)); have n3_ := Aside0.mk ((by rw [hg]; exact (below_size (by repeat (first | (with_reducible first | exact HB.out | apply below_alloc | apply pw_below_drewN | apply below_drew1) | exact HB.out))) : w.heap.size ≤ gb289)); clear HB; have HB := n0_; have BK289 := n1_; have GW289 := n2_; have GE289 := n3_; clear n0_ n1_ n2_ n3_; clear hb hbox hg; have hcz9_0 : w8.cell? ⟨gb289, 0, none⟩ = some (.string a0_0) := (blk_cell BK289.out 0).trans rfl; have hcz9_1 : w8.cell? ⟨gb289, 1, none⟩ = some (.string a0_1) := (blk_cell BK289.out 1).trans rfl; have hfz9_0 := blk_frozen BK289.out 0; have hfz9_1 := blk_frozen BK289.out 1))
        go_ret
        exact ⟨by first | rfl | (simp [errW_none, errW_some] <;> rfl) | (simp [*, errW_none, errW_some] <;> rfl), by repeat (first | (with_reducible first | exact HB.out | apply below_alloc | apply pw_below_drewN | apply below_drew1 | refine below_set ?_ GE289.out) | exact HB.out)⟩
      · rw [if_neg c7] at H
        exact absurd H (by simp)
    · rw [if_neg c6] at H
      exact absurd H (by simp)
end Go.Proofs.YtmmbpbgcobmifaaDoor.Pr
end
section
namespace Go.Proofs.YtmmbpbgcobmifaaDoor.Pr
end Go.Proofs.YtmmbpbgcobmifaaDoor.Pr
namespace Go.Proofs.YtmmbpbgcobmifaaDoorH
open Go.RowKit Go.Proofs.YtmmbpbgcobmifaaDoorW.PrintWords Go.Proofs.YtmmbpbgcobmifaaDoorW.PrintLast Go.Proofs.YtmmbpbgcobmifaaDoorW.PrintMore Go.Proofs.YtmmbpbgcobmifaaDoor.Pr
theorem findIdx_at {α : Type} (p : α → Bool) (x : α) (l2 : List α) (hx : p x = true) : ∀ l1 : List α, (∀ c ∈ l1, p c = false) → (l1 ++ x :: l2).findIdx p = l1.length
  | [], _ => by rw [List.nil_append, List.findIdx_cons, hx]; rfl
  | c :: l1, h => by
    rw [List.cons_append, List.findIdx_cons, h c (List.mem_cons_self ..), findIdx_at p x l2 hx l1 (fun c hc => h c (List.mem_cons_of_mem _ hc))]
    rfl
theorem dropWhile_blank (p : UInt8 → Bool) (X : List UInt8) : ∀ bl : List UInt8, bl.all p = true → (bl ++ X).dropWhile p = X.dropWhile p
  | [], _ => rfl
  | c :: bl, h => by
    rw [List.all_cons, Bool.and_eq_true] at h
    rw [List.cons_append, List.dropWhile_cons_of_pos h.1, dropWhile_blank p X bl h.2]
theorem rtrim_blank (p : UInt8 → Bool) (X br : List UInt8) (h : br.all p = true) : rtrim p (X ++ br) = rtrim p X := by
  unfold rtrim
  rw [List.reverse_append, dropWhile_blank p _ _ (by rw [List.all_reverse]; exact h)]
theorem trimL_mid (bl X br : List UInt8) (h1 : bl.all blankU = true) (h2 : br.all blankU = true) : trimL (bl ++ (X ++ br)) = trimL X := by
  rw [trimL_eq', dropWhile_blank _ _ _ h1, ← trimL_eq', trimL_eq, rtrim_blank _ _ _ h2, ← trimL_eq]
theorem text_of_blank (l : List UInt8) (h : l.all blankU = true) : (l.all fun c => textI c.toNat) = true := by
  rw [List.all_eq_true] at h ⊢
  intro x hx
  unfold textI
  rw [blankU_int, h x hx, Bool.true_or]
theorem parse_line (s a b : ByteArray) (bl br : List UInt8) (hs : s.data.toList = a.data.toList ++ 58 :: (bl ++ (b.data.toList ++ br))) (hbl : bl.all blankU = true) (hbr : br.all blankU = true) (hr : rightB a b = true) :
    lineB s = true ∧ parseF s = a ∧ parseV s = b := by
  unfold rightB valueB at hr
  rw [Bool.and_eq_true, Bool.and_eq_true, decide_eq_true_eq] at hr
  obtain ⟨ha, hb, ht⟩ := hr
  have hna : ∀ c ∈ a.data.toList, (c == 58) = false := by
    unfold tokB allB at ha
    rw [Bool.and_eq_true, List.all_eq_true] at ha
    intro c hc
    have h := ha.2 c hc
    cases h58 : c == 58 with
    | false => rfl
    | true =>
      rw [beq_iff_eq.1 h58] at h
      exact absurd h (by decide)
  have hcol : colon s = a.data.toList.length := by
    unfold colon
    rw [hs]
    exact findIdx_at (· == 58) 58 _ rfl _ hna
  have hsz : s.size = a.data.toList.length + (1 + (bl.length + (b.data.toList.length + br.length))) := by
    rw [size_eq_length, hs]
    simp
    omega
  have hn : nameOf s = a := bytes_ext (by rw [nameOf, extract_to, hcol, hs, List.take_left])
  have hrest : (restOf s).data.toList = bl ++ (b.data.toList ++ br) := by
    rw [restOf, extract_from, hcol, hs, ← List.drop_drop, List.drop_left]
    rfl
  have htr : trimS (restOf s) = b := bytes_ext (by rw [trimS_data, hrest, trimL_mid _ _ _ hbl hbr, ← trimS_data, ht])
  have hl : lineB s = true := by
    unfold lineB
    rw [Bool.and_eq_true, Bool.and_eq_true, decide_eq_true_eq]
    refine ⟨by omega, by rw [hn]; exact ha, ?_⟩
    unfold allB at hb ⊢
    rw [hrest, List.all_append, List.all_append, text_of_blank bl hbl, hb, text_of_blank br hbr]
    rfl
  refine ⟨hl, ?_, ?_⟩
  · unfold parseF
    rw [if_pos hl, hn]
  · unfold parseV
    rw [if_pos hl, htr]
def putS (a b : ByteArray) : ByteArray := if b.size = 0 then a ++ (⟨#[58]⟩ : ByteArray) else (a ++ (⟨#[58, 32]⟩ : ByteArray)) ++ b
theorem data_append (a b : ByteArray) : (a ++ b).data.toList = a.data.toList ++ b.data.toList := append_data a b
theorem putS_parse (a b : ByteArray) (hr : rightB a b = true) : lineB (putS a b) = true ∧ parseF (putS a b) = a ∧ parseV (putS a b) = b := by
  unfold putS
  by_cases h : b.size = 0
  · rw [if_pos h]
    have hb : b.data.toList = [] := by rw [size_eq_length] at h; exact List.length_eq_zero_iff.1 h
    exact parse_line _ a b [] [] (by rw [data_append, hb]; rfl) rfl rfl hr
  · rw [if_neg h]
    exact parse_line _ a b [32] [] (by rw [data_append, data_append, List.append_nil, List.append_assoc]; rfl) rfl rfl hr
theorem putS_size (a b : ByteArray) : (putS a b).size ≤ a.size + 2 + b.size := by
  unfold putS
  by_cases h : b.size = 0
  · rw [if_pos h, ByteArray.size_append, show (⟨#[58]⟩ : ByteArray).size = 1 from rfl]
    omega
  · rw [if_neg h, ByteArray.size_append, ByteArray.size_append, show (⟨#[58, 32]⟩ : ByteArray).size = 2 from rfl]
    omega
theorem ref05_Put (a b : ByteArray) (ha : a.size ≤ 140737488351232) (hb : b.size ≤ 140737488351232) : catchpitref05_Put.f a b = some (putS a b) := by
  unfold catchpitref05_Put.f putS
  by_cases h : b.size = 0
  · rw [if_pos (by omega), if_pos (by omega), if_pos h]
  · rw [if_neg (by omega), if_pos (by omega), if_pos (by rw [ByteArray.size_append, show (⟨#[58, 32]⟩ : ByteArray).size = 2 from rfl]; omega), if_neg h]
end Go.Proofs.YtmmbpbgcobmifaaDoorH
end
section
namespace Go.Proofs.YtmmbpbgcobmifaaDoorH
open Go.RowKit Go.ChangeShapes Go.WideShapes Go.ChangeAt Go.Proofs.YtmmbpbgcobmifaaDoorW.PrintWords
def Light {H : Type} (P : Program) (t : TypeId) (d : DataW H) : Prop := ∀ x ∈ DataW.weights P t d, x ≤ reachBytes
structure Opens (P : Program) {α : Type} (d : Kd α) (t : TypeId) (G : α → Prop) : Prop where
  cells : P.cellsOf t = d.sz
  open_ : ∀ {H : Type} {enc : TypeId × Value → H} {W : World} {fuel : Nat} {cs : List Value} {x : DataW H × List MemPlace},
    DataW.trod enc P W 0 (fun _ => true) true fuel t cs = some x → Light P t x.1 → ∃ y, d.K W y cs ∧ G y
theorem Opens.int {P : Program} {t : TypeId} {k : IntKind} (hu : P.underlying t = some (.int k)) (hc : P.cellsOf t = 1) : Opens P (Kd.int k) t (fun n => (Lit.int k n).wf = true) := by
  refine ⟨hc, fun h _ => ?_⟩
  obtain ⟨n, e1, e2, wf⟩ := DataW.trod_int hu h
  exact ⟨n, e1, wf⟩
theorem Opens.bool {P : Program} {t : TypeId} (hu : P.underlying t = some .bool) (hc : P.cellsOf t = 1) : Opens P Kd.bool t (fun _ => True) := by
  refine ⟨hc, fun {_ _ _ fuel cs _} h _ => ?_⟩
  cases fuel with
  | zero => simp [DataW.trod] at h
  | succ m =>
    unfold DataW.trod at h
    rw [hu] at h
    match cs, h with
    | [.bool b], _ => exact ⟨b, rfl, trivial⟩
theorem Opens.string {P : Program} {t : TypeId} (hu : P.underlying t = some .string) (hc : P.cellsOf t = 1) : Opens P Kd.string t (fun s => s.size ≤ 140737488351232) := by
  refine ⟨hc, fun h hl => ?_⟩
  obtain ⟨s, e1, e2, _⟩ := DataW.trod_string hu h
  refine ⟨s, e1, ?_⟩
  subst e2
  have := hl s.data.toList.length (by simp [DataW.weights])
  rw [data_length] at this
  exact this
theorem weightsAll_mem {H : Type} (P : Program) (e : TypeId) : ∀ (l : List (DataW H)) (d : DataW H), d ∈ l → ∀ x ∈ DataW.weights P e d, x ∈ DataW.weightsAll P e l
  | [], d, h, _, _ => by cases h
  | a :: l, d, h, x, hx => by
    rw [DataW.weightsAll]
    rcases List.mem_cons.1 h with rfl | h
    · exact List.mem_append_left _ hx
    · exact List.mem_append_right _ (weightsAll_mem P e l d h x hx)
theorem list_of {α : Type} {p : Nat → α → Prop} : ∀ n : Nat, (∀ i, i < n → ∃ y, p i y) → ∃ l : List α, l.length = n ∧ ∀ i y, l[i]? = some y → p i y
  | 0, _ => ⟨[], rfl, fun i y h => by simp at h⟩
  | n + 1, h => by
    obtain ⟨l, hl, hp⟩ := list_of n (fun i hi => h i (by omega))
    obtain ⟨y, hy⟩ := h n (by omega)
    refine ⟨l ++ [y], by simp [hl], fun i z hz => ?_⟩
    rcases Nat.lt_or_ge i n with hi | hi
    · rw [List.getElem?_append_left (by omega)] at hz
      exact hp i z hz
    · rw [List.getElem?_append_right (by omega), hl] at hz
      rcases Nat.eq_zero_or_pos (i - n) with h0 | h0
      · rw [h0] at hz
        obtain rfl : i = n := by omega
        obtain rfl : y = z := by simpa using hz
        exact hy
      · rw [List.getElem?_eq_none (by simp; omega)] at hz
        cases hz
theorem add_add (a : Addr) (i j : Nat) : (a.add i).add j = a.add (i + j) := by
  unfold Addr.add
  by_cases h1 : i = 0
  · subst h1; simp
  · by_cases h2 : j = 0
    · subst h2; simp [h1]
    · simp [h1, h2, Nat.add_assoc]
theorem cells_at {W : World} {base : Nat} {a : Addr} {n : Nat} {cs : List Value} (h : W.cells? base a n = some cs) : cs.length = n ∧ ∀ (i : Nat) u, cs[i]? = some u → W.cell? (a.add i) = some u := by
  obtain ⟨_, hn, hc⟩ := World.cells?_some h
  refine ⟨hn, fun i u hu => ?_⟩
  have hi : i < n := by
    rcases Nat.lt_or_ge i n with hi | hi
    · exact hi
    · rw [List.getElem?_eq_none (by omega)] at hu; cases hu
  rw [hc i hi, hu]
theorem Opens.slice {P : Program} {α : Type} {d : Kd α} {t e : TypeId} {G : α → Prop} (h : Opens P d e G) (hu : P.underlying t = some (.slice e)) (hc : P.cellsOf t = 1) {B : Nat} (hB : P.bytesOf e = B) :
    Opens P (Kd.slice e d) t (fun l => l.length * B ≤ 140737488351232 ∧ ∀ y ∈ l, G y) := by
  refine ⟨hc, fun {H enc W fuel cs x} hx hl => ?_⟩
  rcases Deep.open_slice hu hx with ⟨rfl, rfl⟩ | ⟨a, len, cap, m, n, D, Pl, rfl, _, hle, hm, hmm, rfl, hel⟩
  · exact ⟨[], ⟨none, 0, rfl, Nat.le_refl _, rfl, by simp, fun h => by simp at h⟩, by simp, fun y hy => by cases hy⟩
  · simp only [if_true] at hmm
    subst hmm
    have hw : (len + (m - len)) * B ≤ 140737488351232 := by
      have := hl ((len + (m - len)) * B) (by
        unfold DataW.weights
        simp only [hu, hB]
        simp)
      exact this
    have hget : ∀ i, i < len → ∃ y, (∃ c, c.length = d.sz ∧ d.K W y c ∧ ∀ j u, c[j]? = some u → W.cell? (a.add (i * d.sz + j)) = some u) ∧ G y := by
      intro i hi
      obtain ⟨cs', h1, h2⟩ := hel i (by omega)
      obtain ⟨y, hy, hg⟩ := h.open_ h2 (fun x hx => hl x (by
        unfold DataW.weights
        simp only [hu]
        refine List.mem_cons_of_mem _ (List.mem_append_left _ (weightsAll_mem P e _ (D i) ?_ x hx))
        exact List.mem_map.2 ⟨i, List.mem_range.2 hi, rfl⟩))
      obtain ⟨hn, hcell⟩ := cells_at h1
      refine ⟨y, ⟨cs', by rw [hn, h.cells], hy, fun j u hj => ?_⟩, hg⟩
      have := hcell j u hj
      rw [add_add, h.cells] at this
      exact this
    obtain ⟨l, hll, hat⟩ := list_of len hget
    refine ⟨l, ⟨some a, m, by rw [hll], by omega, rfl, by rw [hll]; unfold maxLen at hm; omega, fun _ => ⟨a, rfl, fun j p hj => (hat j p hj).1⟩⟩, ?_, fun y hy => ?_⟩
    · rw [hll]
      exact Nat.le_trans (Nat.mul_le_mul_right _ (by omega)) hw
    · obtain ⟨i, hi, rfl⟩ := List.mem_iff_getElem.1 hy
      exact (hat i _ (List.getElem?_eq_getElem hi)).2
theorem light_of {H : Type} {P : Program} {ts : List TypeId} {ds : List (DataW H)} (h : (DataW.weightsEach P ts ds).all (· ≤ reachBytes) = true) {j : Nat} {t : TypeId} {d : DataW H} (ht : ts[j]? = some t) (hd : ds[j]? = some d) : Light P t d := fun x hx => by
  have := List.all_eq_true.1 h x (DataW.weights_mem_each ht hd x hx)
  simpa using this
theorem Opens.iso {P : Program} {α β : Type} {d : Kd α} {t : TypeId} {G : α → Prop} (h : Opens P d t G) (f : β → α) (g : α → β) (hfg : ∀ y, f (g y) = y) : Opens P (Kd.iso d f) t (fun x => G (f x)) := by
  refine ⟨h.cells, fun {H enc W fuel cs x} hx hl => ?_⟩
  obtain ⟨y, hk, hg⟩ := h.open_ hx hl
  exact ⟨g y, show d.K W (f (g y)) cs by rw [hfg]; exact hk, by rw [hfg]; exact hg⟩
end Go.Proofs.YtmmbpbgcobmifaaDoorH
end
section
namespace Go.Proofs.YtmmbpbgcobmifaaDoor.Pr
end Go.Proofs.YtmmbpbgcobmifaaDoor.Pr
namespace Go.Proofs.YtmmbpbgcobmifaaDoorH
set_option linter.unusedVariables false
set_option linter.unusedSimpArgs false
open Go Go.RowKit Go.Proofs.YtmmbpbgcobmifaaDoorW.PrintWords Go.Proofs.YtmmbpbgcobmifaaDoorW.PrintLast Go.Proofs.YtmmbpbgcobmifaaDoorW.PrintMore Go.Proofs.YtmmbpbgcobmifaaDoor.Pr
abbrev KB8 : Kd (List Int) := Kd.slice 5 (Kd.int .u8)
theorem at_piece8 {w : World} {A : Option Addr} {n : Nat} {ls : List (List Int)} (h : Kd.C KB8 w A n ls) (k : Nat) (h1 : k < n) :
    ∃ (ad : Addr) (A2 : Option Addr) (c2 : Nat), A = some ad ∧ w.cell? (ad.add k) = some (.slice A2 (ls.getD k []).length c2) ∧ (ls.getD k []).length ≤ c2 ∧ Kd.C (Kd.int .u8) w A2 (ls.getD k []).length (ls.getD k []) := by
  obtain ⟨ad, cs, eA, _, hK, hc⟩ := Kd.C_get h [] (k : Int) (by omega) (by omega)
  rw [Int.toNat_natCast] at hK hc
  obtain ⟨A2, c2, hcs, hle, hC⟩ := hK
  refine ⟨ad, A2, c2, eA, ?_, hle, hC⟩
  have := hc 0 (.slice A2 (ls.getD k []).length c2) (by rw [hcs]; rfl)
  rwa [show k * (KB8).sz + 0 = k by show k * 1 + 0 = k; omega] at this
abbrev crlfB : ByteArray := ⟨#[13, 10]⟩
def putChunk (ext : ByteArray) (s : ByteArray) (c : List Int) : ByteArray := if c.length = 0 then s else ((((s ++ hexS c.length) ++ ext) ++ crlfB) ++ strOfNums c) ++ crlfB
def putChunks (ext : ByteArray) (s : ByteArray) (l : List (List Int)) : ByteArray := l.foldl (putChunk ext) s
def fldS (f : Fld) : ByteArray := (catchpitref05_Put.f f.f0 f.f1).getD ⟨#[]⟩
def putField (s : ByteArray) (f : Fld) : ByteArray := (s ++ fldS f) ++ crlfB
def putFields (s : ByteArray) (l : List Fld) : ByteArray := l.foldl putField s
def putB (l : List (List Int)) (ext : ByteArray) (fs : List Fld) : ByteArray := putFields (((putChunks ext ⟨#[]⟩ l ++ ⟨#[48]⟩) ++ ext) ++ crlfB) fs ++ crlfB
def smallPut (l : List (List Int)) (ext : ByteArray) (fs : List Fld) : Bool := decide (l.length ≤ 1000000) && decide (ext.size ≤ 1000000) && decide (fs.length ≤ 1000000) && (l.all fun c => decide (c.length ≤ 1000000)) && (fs.all fun f => decide (f.f0.size ≤ 1000000) && decide (f.f1.size ≤ 1000000))
theorem fldS_some (f : Fld) (h0 : f.f0.size ≤ 1000000) (h1 : f.f1.size ≤ 1000000) : catchpitref05_Put.f f.f0 f.f1 = some (fldS f) ∧ (fldS f).size ≤ 2000002 := by
  have e1 : (⟨#[58]⟩ : ByteArray).size = 1 := rfl
  have e2 : (⟨#[58, 32]⟩ : ByteArray).size = 2 := rfl
  unfold fldS catchpitref05_Put.f
  by_cases h : (f.f1.size : Int) = 0
  · rw [if_pos h, if_pos (by omega)]
    refine ⟨rfl, ?_⟩
    show (f.f0 ++ _).size ≤ _
    rw [ByteArray.size_append]
    omega
  · rw [if_neg h, if_pos (by omega), if_pos (by rw [ByteArray.size_append]; omega)]
    refine ⟨rfl, ?_⟩
    show ((f.f0 ++ _) ++ f.f1).size ≤ _
    rw [ByteArray.size_append, ByteArray.size_append]
    omega
theorem putChunk_size (ext s : ByteArray) (c : List Int) (he : ext.size ≤ 1000000) (hc : c.length ≤ 1000000) : (putChunk ext s c).size ≤ s.size + 3000000 := by
  have e1 : crlfB.size = 2 := rfl
  unfold putChunk
  split
  · omega
  · have hh := hexL_le16 (n := c.length) (by omega)
    rw [ByteArray.size_append, ByteArray.size_append, ByteArray.size_append, ByteArray.size_append, ByteArray.size_append, hexS_size, Go.strOfNums_size]
    omega
theorem putChunks_size (ext : ByteArray) (he : ext.size ≤ 1000000) : ∀ (l : List (List Int)) (s : ByteArray), (∀ c ∈ l, c.length ≤ 1000000) → (putChunks ext s l).size ≤ s.size + 3000000 * l.length
  | [], s, _ => Nat.le_refl _
  | c :: l, s, h => by
    have h1 := putChunk_size ext s c he (h c List.mem_cons_self)
    have h2 := putChunks_size ext he l (putChunk ext s c) (fun x hx => h x (List.mem_cons_of_mem _ hx))
    show (putChunks ext (putChunk ext s c) l).size ≤ _
    rw [List.length_cons]
    omega
theorem putFields_size : ∀ (l : List Fld) (s : ByteArray), (∀ f ∈ l, f.f0.size ≤ 1000000 ∧ f.f1.size ≤ 1000000) → (putFields s l).size ≤ s.size + 3000000 * l.length
  | [], s, _ => Nat.le_refl _
  | f :: l, s, h => by
    have e1 : crlfB.size = 2 := rfl
    have h1 := (fldS_some f (h f List.mem_cons_self).1 (h f List.mem_cons_self).2).2
    have h2 := putFields_size l (putField s f) (fun x hx => h x (List.mem_cons_of_mem _ hx))
    have h3 : (putField s f).size = s.size + (fldS f).size + 2 := by
      unfold putField
      rw [ByteArray.size_append, ByteArray.size_append, e1]
    show (putFields (putField s f) l).size ≤ _
    rw [List.length_cons]
    omega
theorem putChunks_take (ext s : ByteArray) (l : List (List Int)) (k : Nat) (h : k < l.length) : putChunks ext s (l.take (k + 1)) = putChunk ext (putChunks ext s (l.take k)) (l.getD k []) := by
  unfold putChunks
  rw [List.take_succ_eq_append_getElem h, List.foldl_append, List.getD_eq_getElem?_getD, List.getElem?_eq_getElem h]
  rfl
theorem putFields_take (s : ByteArray) (l : List Fld) (k : Nat) (h : k < l.length) (d : Fld) : putFields s (l.take (k + 1)) = putField (putFields s (l.take k)) (l.getD k d) := by
  unfold putFields
  rw [List.take_succ_eq_append_getElem h, List.foldl_append, List.getD_eq_getElem?_getD, List.getElem?_eq_getElem h]
  rfl
theorem row_of_bytesP (W : World) (s : ByteArray) (hs : s.size ≤ 9223372036854775807) : RowB (Lib.bytesWorld W 5 s) (.slice (some ⟨W.heap.size, 0, none⟩) s.size (grownCap W s.size 0 5)) (bytesOf s) := by
  have h := bytes_reads W 5 s hs
  refine ⟨some ⟨W.heap.size, 0, none⟩, grownCap W s.size 0 5, by rw [bytesOf_length], by rw [bytesOf_length]; exact grownCap_ge W s.size 0 _, ?_⟩
  rw [← bytesOf_length s] at h
  exact Kd.C_of_reads (d := (0 : Int)) h
set_option maxHeartbeats 8000000 in
set_option maxRecDepth 100000 in
theorem refPut8_calls (A0 : Option Addr) (c0 : Nat) (l : List (List Int)) (ext : ByteArray) (A2 : Option Addr) (c2 : Nat) (fs : List Fld) (w : World) (hr0 : Kd.C KB8 w A0 l.length l) (hr2 : Kd.C k53 w A2 fs.length fs) (hG : TabOk w) (hs : smallPut l ext fs = true) :
    Calls Tryd.prog 30 #[.slice A0 l.length c0, .string ext, .slice A2 fs.length c2] w fun e w' => ∃ v0, e = .returned v0 ∧ RowB w' v0 (bytesOf (putB l ext fs)) ∧ Below w.heap.size w w' := by
  unfold smallPut at hs
  simp only [Bool.and_eq_true, decide_eq_true_eq, List.all_eq_true] at hs
  obtain ⟨⟨⟨⟨h1, h2⟩, h3⟩, h4⟩, h5⟩ := hs
  have HK := Aside0.mk (fun W (hW : Below w.heap.size w W) => (⟨Kd.C_below hr0 hW, Kd.C_below hr2 hW, hG.below hW⟩ : Kd.C KB8 W A0 l.length l ∧ Kd.C k53 W A2 fs.length fs ∧ TabOk W))
  have H4 := Aside0.mk h4
  have H5 := Aside0.mk h5
  clear hr0 hr2 hG h4 h5
  go_enter Tryd.func30, Tryd.ntmps30
  go_wp2_with fail
  go_loopw [7, 8] (fun u7 u8 wr => ∃ (k : Nat) (s : ByteArray), u8 = .int .i64 (k : Int) ∧ u7 = .string s ∧ k ≤ l.length ∧ Aside0 (s = putChunks ext ⟨#[]⟩ (l.take k)) ∧ Aside0 (Below w.heap.size w wr)) (fun _ u8 _ => l.length - (intOf u8).toNat)
  case atStart => exact ⟨0, _, rfl, rfl, Nat.zero_le _, ⟨rfl⟩, ⟨Below.refl _ _⟩⟩
  case round =>
    obtain ⟨k, s, rfl, rfl, hk, hse, hb⟩ := hrel
    by_cases hlt : k < l.length
    · have hlt' : (k : Int) < (l.length : Int) := by omega
      have hge' : (0 : Int) ≤ (k : Int) := by omega
      obtain ⟨ad, A', c', eA, hcell, hle, hC⟩ := at_piece8 (HK.out _ hb.out).1 k hlt
      subst eA
      have HST := Aside0.mk (putChunks_take ext ⟨#[]⟩ l k hlt)
      have hsz := putChunks_size ext h2 (l.take k) ⟨#[]⟩ (fun c hc => H4.out c (List.mem_of_mem_take hc))
      rw [← hse.out, List.length_take, show (⟨#[]⟩ : ByteArray).size = 0 from rfl] at hsz
      have hcl := H4.out (l.getD k []) (by rw [List.getD_eq_getElem?_getD, List.getElem?_eq_getElem hlt]; exact List.getElem_mem hlt)
      generalize l.getD k [] = ci at *
      rw [← hse.out] at HST
      have hw3 : IntKind.i64.wrap ((k : Int) + 1) = (k : Int) + 1 := by
        unfold IntKind.wrap
        simp [IntKind.bits, IntKind.signed]
        omega
      by_cases h0 : 0 < ci.length
      · have h0' : (0 : Int) < (ci.length : Int) := by omega
        have hwu : IntKind.u64.wrap (ci.length : Int) = (ci.length : Int) := by
          unfold IntKind.wrap
          simp [IntKind.bits, IntKind.signed]
          omega
        have hpos := hexL_le16 (n := ci.length) (by omega)
        have HP := Aside0.mk (fun W hg => catchpitref01_Put.calls 17 (ci.length : Int) (hexS ci.length) W hg (ref01_Put ci.length (by omega) 17 (by omega)))
        have hcv := Kd.C_string (P := Tryd.prog) (c := c') Tryd.underlying24 Tryd.underlying5 Tryd.underlying9 hC
        have HCV := Aside0.mk (fun W' (h : Below wr.heap.size wr W') => Kd.C_string (P := Tryd.prog) (c := c') Tryd.underlying24 Tryd.underlying5 Tryd.underlying9 (Kd.C_below hC h))
        have HCE := Aside0.mk (fun W' (h : Below wr.heap.size wr W') => pw_cell_below h hcell)
        have d0 : wr.drew.cell? (ad.add k) = some (.slice A' ci.length c') := hcell
        have d1 : (convert 24 9 (.slice A' ci.length c')).run Tryd.prog wr.drew = .ok (.string (strOfNums ci)) wr.drew := HCV.out _ (below_drew (Below.refl _ _))
        have HN := Aside0.mk (show ((((s ++ hexS ci.length) ++ ext) ++ crlfB) ++ strOfNums ci) ++ crlfB = putChunks ext ⟨#[]⟩ (l.take (k + 1)) by rw [HST.out]; unfold putChunk; rw [if_neg (by omega)])
        have z1 : (hexS ci.length).size ≤ 16 := by rw [hexS_size]; exact hpos
        have z2 : (strOfNums ci).size ≤ 1000000 := by rw [Go.strOfNums_size]; exact hcl
        have z3 : s.size ≤ 3000000000000 := by omega
        have HB := Aside0.mk hb.out
        have HTD := Aside0.mk (HK.out _ (below_drew hb.out)).2.2
        clear hC hle hsz hcl hb hpos
        generalize hexS ci.length = hx at *
        generalize strOfNums ci = sc at *
        have y1 : ¬ 9223372036854775807 < s.size + hx.size := by omega
        have y2 : ¬ 9223372036854775807 < s.size + hx.size + ext.size := by omega
        have y3 : ¬ 9223372036854775807 < s.size + hx.size + ext.size + 2 := by omega
        have y4 : ¬ 9223372036854775807 < s.size + hx.size + ext.size + 2 + sc.size := by omega
        have y5 : ¬ 9223372036854775807 < s.size + hx.size + ext.size + 2 + sc.size + 2 := by omega
        go_wp2_with fail
        go_region_held3? (fun W => W.cell? (ad.add k) = some (.slice A' ci.length c') ∧ (convert 24 9 (.slice A' ci.length c')).run Tryd.prog W = .ok (.string sc) W) (first | exact ⟨d0, d1⟩ | exact ⟨x0, x1⟩ | assumption)
          (first | (go_at_call 45; refine (HP.out _ HTD.out).mono ?_; rintro e w4 ⟨rfl, hb4⟩; have x0 := HCE.out _ (below_drew (Below.refl _ _) |>.trans hb4); have x1 := HCV.out _ (below_drew (Below.refl _ _) |>.trans hb4); have HB4 := Aside0.mk (HB.out.trans ((below_drew (Below.refl _ _) |>.trans hb4).mono HB.out.size)); clear hb4))
        go_wp2
        go_roundw
        case rel => exact ⟨k + 1, _, by go_num, rfl, by omega, HN, HB4⟩
        case measure => simp [intOf]; omega
      · have hc0 : ci.length = 0 := by omega
        have HN := Aside0.mk (show s = putChunks ext ⟨#[]⟩ (l.take (k + 1)) by rw [HST.out]; unfold putChunk; rw [if_pos hc0])
        have HB := Aside0.mk hb.out
        clear hC hle hsz hcl hb hw3
        obtain rfl : ci = [] := List.length_eq_zero_iff.1 hc0
        clear h0 hc0
        go_wp2_with fail
        go_roundw
        case rel => exact ⟨k + 1, _, by go_num, rfl, by omega, HN, HB⟩
        case measure => simp [intOf]; omega
    · obtain rfl : k = l.length := by omega
      have hsz := putChunks_size ext h2 l ⟨#[]⟩ H4.out
      rw [List.take_of_length_le (Nat.le_refl _)] at hse
      rw [← hse.out, show (⟨#[]⟩ : ByteArray).size = 0 from rfl] at hsz
      have hz1 : s.size ≤ 3000000000000 := by omega
      have HS := Aside0.mk (show putB l ext fs = putFields (((s ++ ⟨#[48]⟩) ++ ext) ++ crlfB) fs ++ crlfB by rw [hse.out]; rfl)
      have HB := Aside0.mk hb.out
      clear hsz hse hb
      have y1 : ¬ 9223372036854775807 < s.size + 1 := by omega
      have y2 : ¬ 9223372036854775807 < s.size + 1 + ext.size := by omega
      have y3 : ¬ 9223372036854775807 < s.size + 1 + ext.size + 2 := by omega
      have hz2 : (((s ++ ⟨#[48]⟩) ++ ext) ++ crlfB).size ≤ 3000002000000 := by
        rw [ByteArray.size_append, ByteArray.size_append, ByteArray.size_append, show (⟨#[48]⟩ : ByteArray).size = 1 from rfl, show crlfB.size = 2 from rfl]
        omega
      go_wp2_with fail
      generalize eT : ((s ++ (⟨#[48]⟩ : ByteArray)) ++ ext) ++ ⟨#[13, 10]⟩ = t at *
      clear eT y1 y2 y3 hz1
      go_loopw [7, 9] (fun u7 u9 wr2 => ∃ (k : Nat) (s : ByteArray), u9 = .int .i64 (k : Int) ∧ u7 = .string s ∧ k ≤ fs.length ∧ Aside0 (s = putFields t (fs.take k)) ∧ Aside0 (Below w.heap.size w wr2)) (fun _ u9 _ => fs.length - (intOf u9).toNat)
      case atStart => exact ⟨0, _, rfl, rfl, Nat.zero_le _, ⟨rfl⟩, HB⟩
      case round =>
        obtain ⟨k, s, rfl, rfl, hk, hse, hb⟩ := hrel
        by_cases hlt : k < fs.length
        · obtain ⟨ad, e, hx0, hx1⟩ := at_T53 (HK.out _ hb.out).2.1 (k : Int) (by omega) (by omega)
          cases e
          unfold rd_T53 at hx0 hx1
          rw [Int.toNat_natCast] at hx0 hx1
          have HST := Aside0.mk (putFields_take t fs k hlt z53)
          have hsz := putFields_size (fs.take k) t (fun f hf => H5.out f (List.mem_of_mem_take hf))
          rw [← hse.out, List.length_take] at hsz
          obtain ⟨hf0, hf1⟩ := H5.out (fs.getD k z53) (mem_getD fs z53 k hlt)
          rw [← hse.out] at HST
          generalize fs.getD k z53 = x at *
          obtain ⟨hfe, hfz⟩ := fldS_some x hf0 hf1
          have HP := Aside0.mk (catchpitref05_Put.calls x.f0 x.f1 (fldS x) wr (HK.out _ hb.out).2.2 hfe)
          have HN := Aside0.mk (show (s ++ fldS x) ++ crlfB = putFields t (fs.take (k + 1)) by rw [HST.out]; rfl)
          have hz3 : s.size ≤ 6000002000000 := by omega
          have HB2 := Aside0.mk hb.out
          clear hsz hb hfe hf0 hf1 hse
          generalize fldS x = sx at *
          have y1 : ¬ 9223372036854775807 < s.size + sx.size := by omega
          have y2 : ¬ 9223372036854775807 < s.size + sx.size + 2 := by omega
          have hw3 : IntKind.i64.wrap ((k : Int) + 1) = (k : Int) + 1 := by
            unfold IntKind.wrap
            simp [IntKind.bits, IntKind.signed]
            omega
          have hlt' : (k : Int) < (fs.length : Int) := by omega
          have hge' : (0 : Int) ≤ (k : Int) := by omega
          go_wp2_with fail
          refine HP.out.mono ?_
          rintro e w4 ⟨rfl, hb4⟩
          have HB4 := Aside0.mk (HB2.out.trans (hb4.mono HB2.out.size))
          clear hb4 hx0 hx1
          go_wp2
          go_roundw
          case rel => exact ⟨k + 1, _, by go_num, rfl, by omega, HN, HB4⟩
          case measure => simp [intOf]; omega
        · obtain rfl : k = fs.length := by omega
          have hsz := putFields_size fs t H5.out
          rw [List.take_of_length_le (Nat.le_refl _)] at hse
          rw [← hse.out] at hsz
          have hz3 : s.size ≤ 6000002000000 := by omega
          have HS := Aside0.mk (show putB l ext fs = s ++ crlfB by rw [HS.out, hse.out])
          have HB2 := Aside0.mk hb.out
          clear hsz hse hb
          have y1 : ¬ 9223372036854775807 < s.size + 2 := by omega
          have hz4 : (s ++ crlfB).size ≤ 9223372036854775807 := by rw [ByteArray.size_append, show crlfB.size = 2 from rfl]; omega
          have HRB := Aside0.mk (fun W => row_of_bytesP W (s ++ crlfB) hz4)
          have kb := fun W => print_bytes (P := Tryd.prog) 9 24 5 Tryd.underlying9 Tryd.underlying24 Tryd.underlying5 (s ++ crlfB) W
          go_wp2
          go_ret
          have hRB := HRB.out wr
          rw [ByteArray.size_append, show crlfB.size = 2 from rfl] at hRB
          exact ⟨_, rfl, by rw [HS.out]; exact hRB, bytes_below HB2.out HB2.out.size 5 _⟩
end Go.Proofs.YtmmbpbgcobmifaaDoorH
end
section
namespace Go.Proofs.YtmmbpbgcobmifaaDoor.Pr
end Go.Proofs.YtmmbpbgcobmifaaDoor.Pr
namespace Go.Proofs.YtmmbpbgcobmifaaDoorH
set_option linter.unusedVariables false
set_option linter.unusedSimpArgs false
open Go.RowKit Go.Proofs.YtmmbpbgcobmifaaDoorW.PrintWords Go.Proofs.YtmmbpbgcobmifaaDoorW.PrintLast Go.Proofs.YtmmbpbgcobmifaaDoorW.PrintMore Go.Proofs.YtmmbpbgcobmifaaDoor.Pr Go.Proofs.YtmmbpbgcobmifaaDoorM
theorem bytesOf_appendM (a b : ByteArray) : bytesOf (a ++ b) = bytesOf a ++ bytesOf b := by
  unfold bytesOf
  rw [data_append, List.map_append]
theorem bytesOf_strM {l : List Int} (h : ByteL l) : bytesOf (strOfNums l) = l := ofU8_u8s h
theorem bytesOf_byteM (s : ByteArray) : ByteL (bytesOf s) := by
  intro x hx
  unfold bytesOf at hx
  obtain ⟨c, _, rfl⟩ := List.mem_map.1 hx
  have := c.toNat_lt
  omega
theorem dig_hexD : ∀ d : Fin 16, digI (hexD d.val) = (d.val : Int) := by decide +kernel
theorem dig_nat {d : Nat} (h : d < 16) : digI (hexD d) = (d : Int) := dig_hexD ⟨d, h⟩
section
variable {e0 e1 e2 : Nat}
theorem run_hexP (n : Nat) (hn : n < 1099511627776) : ∀ (r : List Int) (i : Nat) (X : MSt Fld), X.place = 0 → X.n = 0 → X.count = 0 → mrun (envM e0 e1 e2) X (hexL n ++ r) i = mrun (envM e0 e1 e2) { X with n := n, count := (hexL n).length } r (i + (hexL n).length) := by
  induction n using Nat.strongRecOn with
  | ind n ih =>
    intro r i X hp hz hc
    by_cases h : n < 16
    · have hd : (envM e0 e1 e2).dg (hexD n) = (n : Int) := dig_nat h
      rw [hexL_lt h, List.singleton_append, run_on (x := { X with n := n, count := 1 }) (by
        rw [step0 hp, hd, if_pos (by omega), if_neg (by rw [hz, hc]; omega), hz, hc]
        simp) (by show X.place ≠ 11; omega)]
      rfl
    · have hm : n % 16 < 16 := Nat.mod_lt _ (by decide)
      have hd : (envM e0 e1 e2).dg (hexD (n % 16)) = ((n % 16 : Nat) : Int) := dig_nat hm
      have hl := hexL_le 9 (n / 16) (by omega)
      rw [hexL_ge (by omega), List.append_assoc, ih (n / 16) (by omega) (by omega) _ i X hp hz hc, List.singleton_append, run_on (x := { X with n := n, count := (hexL (n / 16)).length + 1 }) (by
        rw [step0 (by exact hp), hd, if_pos (by omega), if_neg (by
          show ¬ ((hexL (n / 16)).length = 16 ∨ (4611686018427387903 - ((n % 16 : Nat) : Int).toNat) / 16 < n / 16)
          omega)]
        show Except.ok { X with n := 16 * (n / 16) + ((n % 16 : Nat) : Int).toNat, count := (hexL (n / 16)).length + 1 } = _
        congr 2
        omega) (by show X.place ≠ 11; omega), List.length_append]
      rfl
def ExtOk (e0 : Nat) (ext : List Int) : Prop := ext.length ≤ e0 ∧ (ext = [] ∨ ∃ t, ext = 59 :: t ∧ ∀ c ∈ t, textB c = true ∧ c ≠ 13)
theorem run_textP : ∀ (t r : List Int) (i : Nat) (X : MSt Fld), X.place = 1 → (∀ c ∈ t, textB c = true ∧ c ≠ 13) → X.count + t.length ≤ e0 → mrun (envM e0 e1 e2) X (t ++ r) i = mrun (envM e0 e1 e2) { X with count := X.count + t.length } r (i + t.length)
  | [], r, i, X, _, _, _ => rfl
  | c :: t, r, i, X, hp, ht, hl => by
    obtain ⟨h1, h2⟩ := ht c List.mem_cons_self
    rw [List.length_cons] at hl
    rw [List.cons_append, run_on (x := { X with count := X.count + 1 }) (by
      rw [step1 hp, if_neg h2, if_neg (by rw [show (envM e0 e1 e2).tx c = textB c from rfl, h1]; simp), if_neg (by show ¬ e0 ≤ X.count; omega)]) (by show X.place ≠ 11; omega),
      run_textP t r (i + 1) { X with count := X.count + 1 } hp (fun c hc => ht c (List.mem_cons_of_mem _ hc)) (by show X.count + 1 + t.length ≤ e0; omega), List.length_cons]
    show mrun _ { X with count := X.count + 1 + t.length } _ _ = _
    rw [show X.count + 1 + t.length = X.count + (t.length + 1) by omega, show i + 1 + t.length = i + (t.length + 1) by omega]
theorem run_crP (X : MSt Fld) (r : List Int) (i : Nat) (hp : X.place = 2) : mrun (envM e0 e1 e2) X (10 :: r) i = mrun (envM e0 e1 e2) { X with place := if 0 < X.n then 3 else 6 } r (i + 1) := by
  by_cases h : 0 < X.n
  · rw [if_pos h, run_on (x := { X with place := 3 }) (by rw [step2 hp, if_neg (by simp), if_pos h]) (by simp)]
  · rw [if_neg h, run_on (x := { X with place := 6 }) (by rw [step2 hp, if_neg (by simp), if_neg h]) (by simp)]
theorem run_extP (ext : List Int) (hx : ExtOk e0 ext) (r : List Int) (i : Nat) (X : MSt Fld) (hp : X.place = 0) (hc : X.count ≠ 0) : ∃ k, mrun (envM e0 e1 e2) X (ext ++ 13 :: 10 :: r) i = mrun (envM e0 e1 e2) { X with count := k, place := if 0 < X.n then 3 else 6 } r (i + ext.length + 2) := by
  have d13 : ¬ (0 ≤ (envM e0 e1 e2).dg 13) := by have := (goodM e0 e1 e2).d13; show ¬ (0 ≤ digI 13); omega
  have d59 : ¬ (0 ≤ (envM e0 e1 e2).dg 59) := by have := (goodM e0 e1 e2).d59; show ¬ (0 ≤ digI 59); omega
  obtain ⟨hl, h⟩ := hx
  rcases h with rfl | ⟨t, rfl, ht⟩
  · refine ⟨X.count, ?_⟩
    rw [List.nil_append, run_on (x := { X with place := 2 }) (by
      rw [step0 hp, if_neg d13, if_neg (by simp [hc]), if_pos rfl]) (by simp), run_crP _ _ _ rfl]
    rfl
  · rw [List.length_cons] at hl
    refine ⟨1 + t.length, ?_⟩
    rw [List.cons_append, run_on (x := { X with place := 1, count := 1 }) (by
      rw [step0 hp, if_neg d59, if_neg (by simp [hc]), if_neg (by simp), if_neg (by show ¬ e0 < 1; omega)]) (by simp),
      run_textP t _ _ _ rfl ht (by show 1 + t.length ≤ e0; omega), run_on (x := { X with place := 2, count := 1 + t.length }) (by
      rw [step1 rfl, if_pos rfl]) (by simp), run_crP _ _ _ rfl]
    show mrun _ { X with place := if 0 < X.n then 3 else 6, count := 1 + t.length } r _ = _
    congr 1
    rw [List.length_cons]
    omega
def chunkP (ext c : List Int) : List Int := if c.length = 0 then [] else hexL c.length ++ (ext ++ (13 :: 10 :: (c ++ [13, 10])))
theorem run_chunkP (ext : List Int) (hx : ExtOk e0 ext) (c r : List Int) (hc : c.length < 1099511627776) (i : Nat) (X : MSt Fld) (hp : X.place = 0) (hn : X.n = 0) (hz : X.count = 0) : mrun (envM e0 e1 e2) X (chunkP ext c ++ r) i = mrun (envM e0 e1 e2) { X with data := X.data ++ c } r (i + (chunkP ext c).length) := by
  unfold chunkP
  by_cases h : c.length = 0
  · rw [if_pos h, List.length_eq_zero_iff.1 h, List.append_nil]
    rfl
  · obtain ⟨m, hm⟩ : ∃ m, c.length = m + 1 := ⟨c.length - 1, by omega⟩
    have hpos := hexL_pos c.length
    rw [if_neg h, List.append_assoc, run_hexP c.length hc _ i X hp hn hz, List.append_assoc]
    obtain ⟨k, hk⟩ := run_extP (e1 := e1) (e2 := e2) ext hx (c ++ [13, 10] ++ r) (i + (hexL c.length).length) { X with n := c.length, count := (hexL c.length).length } hp (by show (hexL c.length).length ≠ 0; omega)
    rw [List.cons_append, List.cons_append, hk, if_pos (by show 0 < c.length; omega), run_data m _ _ _ rfl hm, if_pos (by rw [List.length_append, List.length_append]; omega), ← hm, List.append_assoc, List.take_left, List.drop_left]
    rw [List.cons_append, List.cons_append, List.nil_append, run_on (x := { X with place := 5, n := 0, count := k, data := X.data ++ c }) (by rw [step4 rfl, if_neg (by simp)]) (by simp), run_on (x := { X with place := 0, n := 0, count := 0, data := X.data ++ c }) (by rw [step5 rfl, if_neg (by simp)]) (by simp)]
    have e : ({ X with place := 0, n := 0, count := 0, data := X.data ++ c } : MSt Fld) = { X with data := X.data ++ c } := by
      cases X; cases hp; cases hn; cases hz; rfl
    rw [e]
    congr 1
    rw [List.length_append, List.length_append, List.length_cons, List.length_cons, List.length_append]
    show _ = i + ((hexL c.length).length + (ext.length + (c.length + 2 + 1 + 1)))
    omega
theorem run_chunksP (ext : List Int) (hx : ExtOk e0 ext) : ∀ (l : List (List Int)) (r : List Int) (i : Nat) (X : MSt Fld), (∀ c ∈ l, c.length < 1099511627776) → X.place = 0 → X.n = 0 → X.count = 0 → mrun (envM e0 e1 e2) X (l.flatMap (chunkP ext) ++ r) i = mrun (envM e0 e1 e2) { X with data := X.data ++ l.flatten } r (i + (l.flatMap (chunkP ext)).length)
  | [], r, i, X, _, _, _, _ => by simp
  | c :: l, r, i, X, hc, hp, hn, hz => by
    rw [List.flatMap_cons, List.append_assoc, run_chunkP ext hx c _ (hc c List.mem_cons_self) i X hp hn hz, run_chunksP ext hx l r _ { X with data := X.data ++ c } (fun d hd => hc d (List.mem_cons_of_mem _ hd)) hp hn hz, List.flatten_cons, List.length_append]
    show mrun _ { X with data := X.data ++ c ++ l.flatten } _ _ = _
    rw [List.append_assoc, Nat.add_assoc]
theorem lineStep {X : MSt Fld} {c : Int} (h : X.size < e2) (hp : X.place ≠ 9) : mline (envM e0 e1 e2) X c = .ok { X with size := X.size + 1, text := X.text ++ [c] } := line_on h (fun e => hp e.2)
theorem run_nameP : ∀ (a r : List Int) (i : Nat) (X : MSt Fld), X.place = 7 → (∀ c ∈ a, tokI c = true ∧ c ≠ 58) → X.size + a.length ≤ e2 → mrun (envM e0 e1 e2) X (a ++ r) i = mrun (envM e0 e1 e2) { X with size := X.size + a.length, text := X.text ++ a } r (i + a.length)
  | [], r, i, X, _, _, _ => by simp
  | c :: a, r, i, X, hp, ha, hl => by
    obtain ⟨h1, h2⟩ := ha c List.mem_cons_self
    rw [List.length_cons] at hl
    rw [List.cons_append, run_on (x := { X with size := X.size + 1, text := X.text ++ [c] }) (by
      rw [step7 hp, if_neg h2, show (envM e0 e1 e2).tk c = tokI c from rfl, h1, if_neg (by simp), lineStep (by omega) (by omega)]) (by show X.place ≠ 11; omega),
      run_nameP a r (i + 1) { X with size := X.size + 1, text := X.text ++ [c] } hp (fun c hc => ha c (List.mem_cons_of_mem _ hc)) (by show X.size + 1 + a.length ≤ e2; omega), List.length_cons]
    show mrun _ { X with size := X.size + 1 + a.length, text := X.text ++ [c] ++ a } _ _ = _
    rw [show X.size + 1 + a.length = X.size + (a.length + 1) by omega, show i + 1 + a.length = i + (a.length + 1) by omega, List.append_assoc, List.singleton_append]
theorem run_valueP : ∀ (a r : List Int) (i : Nat) (X : MSt Fld), X.place = 8 → (∀ c ∈ a, textB c = true ∧ c ≠ 13) → X.size + a.length ≤ e2 → mrun (envM e0 e1 e2) X (a ++ r) i = mrun (envM e0 e1 e2) { X with size := X.size + a.length, text := X.text ++ a } r (i + a.length)
  | [], r, i, X, _, _, _ => by simp
  | c :: a, r, i, X, hp, ha, hl => by
    obtain ⟨h1, h2⟩ := ha c List.mem_cons_self
    rw [List.length_cons] at hl
    rw [List.cons_append, run_on (x := { X with size := X.size + 1, text := X.text ++ [c] }) (by
      rw [step8 hp, if_neg h2, show (envM e0 e1 e2).tx c = textB c from rfl, h1, if_neg (by simp), lineStep (by omega) (by omega)]) (by show X.place ≠ 11; omega),
      run_valueP a r (i + 1) { X with size := X.size + 1, text := X.text ++ [c] } hp (fun c hc => ha c (List.mem_cons_of_mem _ hc)) (by show X.size + 1 + a.length ≤ e2; omega), List.length_cons]
    show mrun _ { X with size := X.size + 1 + a.length, text := X.text ++ [c] ++ a } _ _ = _
    rw [show X.size + 1 + a.length = X.size + (a.length + 1) by omega, show i + 1 + a.length = i + (a.length + 1) by omega, List.append_assoc, List.singleton_append]
theorem run_lineP (n0 : Int) (n v r : List Int) (hn : ∀ c ∈ n0 :: n, tokI c = true ∧ c ≠ 58) (h13 : n0 ≠ 13) (hv : ∀ c ∈ v, textB c = true ∧ c ≠ 13) (i : Nat) (X : MSt Fld) (hp : X.place = 6) (ht : X.text = []) (hl : X.lines < e1) (hz : X.size + ((n0 :: n) ++ 58 :: (v ++ [13, 10])).length ≤ e2) :
    mrun (envM e0 e1 e2) X ((n0 :: n) ++ 58 :: (v ++ [13, 10]) ++ r) i = mrun (envM e0 e1 e2) { X with lines := X.lines + 1, size := X.size + ((n0 :: n) ++ 58 :: (v ++ [13, 10])).length, fields := X.fields ++ [pfM ((n0 :: n) ++ 58 :: v)] } r (i + ((n0 :: n) ++ 58 :: (v ++ [13, 10])).length) := by
  have hlen : ((n0 :: n) ++ 58 :: (v ++ [13, 10])).length = n.length + v.length + 4 := by
    simp only [List.length_append, List.length_cons, List.length_nil]; omega
  rw [hlen] at hz ⊢
  obtain ⟨h1, h2⟩ := hn n0 List.mem_cons_self
  have e : (n0 :: n) ++ 58 :: (v ++ [13, 10]) ++ r = n0 :: (n ++ 58 :: (v ++ 13 :: 10 :: r)) := by simp
  rw [e, run_on (x := { X with lines := X.lines + 1, place := 7, size := X.size + 1, text := [n0] }) (by
    rw [step6 hp, if_neg h13, show (envM e0 e1 e2).tk n0 = tokI n0 from rfl, h1, if_neg (by simp), if_neg (by show ¬ e1 ≤ X.lines; omega), lineStep (by show X.size < e2; omega) (by simp)]
    show Except.ok { X with lines := X.lines + 1, place := 7, size := X.size + 1, text := X.text ++ [n0] } = _
    rw [ht]; rfl) (by simp)]
  rw [run_nameP n _ _ _ rfl (fun c hc => hn c (List.mem_cons_of_mem _ hc)) (by show X.size + 1 + n.length ≤ e2; omega)]
  rw [run_on (x := { X with lines := X.lines + 1, place := 8, size := X.size + 1 + n.length + 1, text := [n0] ++ n ++ [58] }) (by
    rw [step7 rfl, if_pos rfl, lineStep (by show X.size + 1 + n.length < e2; omega) (by simp)]) (by simp)]
  rw [run_valueP v _ _ _ rfl hv (by show X.size + 1 + n.length + 1 + v.length ≤ e2; omega)]
  rw [run_on (x := { X with lines := X.lines + 1, place := 9, size := X.size + 1 + n.length + 1 + v.length + 1, text := [n0] ++ n ++ [58] ++ v ++ [13] }) (by
    rw [step8 rfl, if_pos rfl, line_on (by show X.size + 1 + n.length + 1 + v.length < e2; omega) (fun e => absurd e.1 (by decide))]) (by simp)]
  rw [run_on (x := { X with lines := X.lines + 1, place := 6, size := X.size + 1 + n.length + 1 + v.length + 1 + 1, text := [], fields := X.fields ++ [pfM ([n0] ++ n ++ [58] ++ v)] }) (by
    rw [step9 rfl, if_neg (by simp), line_end (by show X.size + 1 + n.length + 1 + v.length + 1 < e2; omega) rfl]
    show Except.ok { X with lines := X.lines + 1, place := 6, size := X.size + 1 + n.length + 1 + v.length + 1 + 1, text := [], fields := X.fields ++ [pfM (([n0] ++ n ++ [58] ++ v ++ [13]).dropLast)] } = _
    rw [List.dropLast_concat]) (by simp)]
  have e2 : [n0] ++ n ++ [58] ++ v = (n0 :: n) ++ 58 :: v := by simp
  rw [e2]
  have e3 : ({ X with lines := X.lines + 1, place := 6, size := X.size + 1 + n.length + 1 + v.length + 1 + 1, text := [], fields := X.fields ++ [pfM ((n0 :: n) ++ 58 :: v)] } : MSt Fld) = { X with lines := X.lines + 1, size := X.size + (n.length + v.length + 4), fields := X.fields ++ [pfM ((n0 :: n) ++ 58 :: v)] } := by
    cases X; cases hp; cases ht
    congr 1
    show _ + 1 + n.length + 1 + v.length + 1 + 1 = _
    omega
  rw [e3]
  congr 1
  omega
theorem tok_ne58 : ∀ c : Fin 256, tokI (c.val : Int) = true → (c.val : Int) ≠ 58 ∧ (c.val : Int) ≠ 13 := by decide +kernel
theorem text_ne13 : ∀ c : Fin 256, textI (c.val : Int) = true → textB (c.val : Int) = true ∧ (c.val : Int) ≠ 13 := by decide +kernel
theorem u8_fin {p : Int → Prop} (h : ∀ c : Fin 256, p (c.val : Int)) (c : UInt8) : p (c.toNat : Int) := h ⟨c.toNat, c.toNat_lt⟩
theorem textI_B {s : ByteArray} (h : allB textI s = true) : ∀ c ∈ bytesOf s, textB c = true ∧ c ≠ 13 := by
  intro c hc
  unfold bytesOf at hc
  obtain ⟨u, hu, rfl⟩ := List.mem_map.1 hc
  unfold allB at h
  rw [List.all_eq_true] at h
  exact u8_fin (p := fun c => textI c = true → textB c = true ∧ c ≠ 13) text_ne13 u (h u hu)
theorem fldS_putS (f : Fld) (h0 : f.f0.size ≤ 1000000) (h1 : f.f1.size ≤ 1000000) : fldS f = putS f.f0 f.f1 := by
  unfold fldS
  rw [ref05_Put _ _ (by omega) (by omega)]
  rfl
theorem put_shapeM (a b : ByteArray) (hr : rightB a b = true) : ∃ n0 n v, bytesOf (putS a b) = (n0 :: n) ++ 58 :: v ∧ (∀ c ∈ n0 :: n, tokI c = true ∧ c ≠ 58) ∧ n0 ≠ 13 ∧ (∀ c ∈ v, textB c = true ∧ c ≠ 13) := by
  unfold rightB valueB tokB at hr
  rw [Bool.and_eq_true, Bool.and_eq_true, Bool.and_eq_true] at hr
  obtain ⟨⟨h1, h2⟩, h3, h4⟩ := hr
  have hv := textI_B h3
  have ha : ∀ c ∈ bytesOf a, tokI c = true ∧ c ≠ 58 ∧ c ≠ 13 := by
    intro c hc
    unfold bytesOf at hc
    obtain ⟨u, hu, rfl⟩ := List.mem_map.1 hc
    unfold allB at h2
    rw [List.all_eq_true] at h2
    exact ⟨h2 u hu, u8_fin (p := fun c => tokI c = true → c ≠ 58 ∧ c ≠ 13) tok_ne58 u (h2 u hu)⟩
  have hne : bytesOf a ≠ [] := by
    intro e
    unfold bytesOf at e
    rw [List.map_eq_nil_iff.1 e] at h1
    exact absurd h1 (by decide)
  obtain ⟨n0, n, en⟩ := List.exists_cons_of_ne_nil hne
  rw [en] at ha
  have h13 := (ha n0 List.mem_cons_self).2.2
  unfold putS
  by_cases h : b.size = 0
  · rw [if_pos h]
    exact ⟨n0, n, [], by rw [bytesOf_appendM, en]; rfl, fun c hc => ⟨(ha c hc).1, (ha c hc).2.1⟩, h13, fun _ h => absurd h List.not_mem_nil⟩
  · rw [if_neg h]
    refine ⟨n0, n, 32 :: bytesOf b, by rw [bytesOf_appendM, bytesOf_appendM, en, List.append_assoc]; rfl, fun c hc => ⟨(ha c hc).1, (ha c hc).2.1⟩, h13, fun c hc => ?_⟩
    rcases List.mem_cons.1 hc with rfl | hc
    · exact ⟨by decide +kernel, by decide⟩
    · exact hv c hc
theorem strOfNums_bytesM (s : ByteArray) : strOfNums (bytesOf s) = s := by
  apply ByteArray.ext
  apply Array.toList_inj.1
  rw [strOfNums_data]
  unfold bytesOf
  rw [List.map_map]
  exact (List.map_congr_left (fun c _ => by simp)).trans (List.map_id _)
theorem pfM_putS (f : Fld) (hr : rightB f.f0 f.f1 = true) : pfM (bytesOf (putS f.f0 f.f1)) = f := by
  obtain ⟨_, p2, p3⟩ := putS_parse f.f0 f.f1 hr
  unfold pfM fldOf
  rw [show strOfNums (bytesOf (putS f.f0 f.f1)) = putS f.f0 f.f1 from strOfNums_bytesM _, p2, p3]
def GoodF (f : Fld) : Prop := f.f0.size ≤ 1000000 ∧ f.f1.size ≤ 1000000 ∧ rightB f.f0 f.f1 = true
def lineP (f : Fld) : List Int := bytesOf (fldS f) ++ [13, 10]
theorem run_fieldP (f : Fld) (hf : GoodF f) (r : List Int) (i : Nat) (X : MSt Fld) (hp : X.place = 6) (ht : X.text = []) (hl : X.lines < e1) (hz : X.size + (lineP f).length ≤ e2) : mrun (envM e0 e1 e2) X (lineP f ++ r) i = mrun (envM e0 e1 e2) { X with lines := X.lines + 1, size := X.size + (lineP f).length, fields := X.fields ++ [f] } r (i + (lineP f).length) := by
  obtain ⟨h0, h1, hr⟩ := hf
  unfold lineP at hz ⊢
  rw [fldS_putS f h0 h1] at hz ⊢
  obtain ⟨n0, n, v, e, hn, h13, hv⟩ := put_shapeM _ _ hr
  have hpf := pfM_putS f hr
  rw [e] at hz hpf ⊢
  have e' : ((n0 :: n) ++ 58 :: v) ++ [13, 10] = (n0 :: n) ++ 58 :: (v ++ [13, 10]) := by simp
  rw [e'] at hz ⊢
  rw [run_lineP n0 n v r hn h13 hv i X hp ht hl hz, hpf]
def linesP (l : List Fld) : List Int := l.flatMap lineP
theorem run_fieldsP : ∀ (l : List Fld) (r : List Int) (i : Nat) (X : MSt Fld), (∀ f ∈ l, GoodF f) → X.place = 6 → X.text = [] → X.lines + l.length ≤ e1 → X.size + (linesP l).length ≤ e2 → mrun (envM e0 e1 e2) X (linesP l ++ r) i = mrun (envM e0 e1 e2) { X with lines := X.lines + l.length, size := X.size + (linesP l).length, fields := X.fields ++ l } r (i + (linesP l).length)
  | [], r, i, X, _, _, _, _, _ => by simp [linesP]
  | f :: l, r, i, X, hf, hp, ht, hl, hz => by
    have e : linesP (f :: l) = lineP f ++ linesP l := rfl
    rw [e, List.length_append] at hz ⊢
    rw [List.length_cons] at hl ⊢
    rw [List.append_assoc, run_fieldP f (hf f List.mem_cons_self) _ i X hp ht (by omega) (by omega), run_fieldsP l r _ { X with lines := X.lines + 1, size := X.size + (lineP f).length, fields := X.fields ++ [f] } (fun g hg => hf g (List.mem_cons_of_mem _ hg)) hp ht (by show X.lines + 1 + l.length ≤ e1; omega) (by show X.size + (lineP f).length + (linesP l).length ≤ e2; omega)]
    show mrun _ { X with lines := X.lines + 1 + l.length, size := X.size + (lineP f).length + (linesP l).length, fields := X.fields ++ [f] ++ l } _ _ = _
    rw [show X.lines + 1 + l.length = X.lines + (l.length + 1) by omega, Nat.add_assoc X.size, Nat.add_assoc i, List.append_assoc, List.singleton_append]
theorem putChunk_bytes (ext s : ByteArray) (c : List Int) (hc : ByteL c) : bytesOf (putChunk ext s c) = bytesOf s ++ chunkP (bytesOf ext) c := by
  unfold putChunk chunkP
  by_cases h : c.length = 0
  · rw [if_pos h, if_pos h, List.append_nil]
  · rw [if_neg h, if_neg h, bytesOf_appendM, bytesOf_appendM, bytesOf_appendM, bytesOf_appendM, bytesOf_appendM, bytesOf_hexS, bytesOf_strM hc, show bytesOf crlfB = [13, 10] from rfl]
    simp
theorem putChunks_bytes (ext : ByteArray) : ∀ (l : List (List Int)) (s : ByteArray), (∀ c ∈ l, ByteL c) → bytesOf (putChunks ext s l) = bytesOf s ++ l.flatMap (chunkP (bytesOf ext))
  | [], s, _ => by simp [putChunks]
  | c :: l, s, h => by
    show bytesOf (putChunks ext (putChunk ext s c) l) = _
    rw [putChunks_bytes ext l _ (fun d hd => h d (List.mem_cons_of_mem _ hd)), putChunk_bytes ext s c (h c List.mem_cons_self), List.append_assoc]
    rfl
theorem putFields_bytes : ∀ (l : List Fld) (s : ByteArray), bytesOf (putFields s l) = bytesOf s ++ linesP l
  | [], s => by simp [putFields, linesP]
  | f :: l, s => by
    show bytesOf (putFields (putField s f) l) = _
    rw [putFields_bytes l]
    unfold putField
    rw [bytesOf_appendM, bytesOf_appendM, show bytesOf crlfB = [13, 10] from rfl]
    show _ = bytesOf s ++ (lineP f ++ linesP l)
    unfold lineP
    simp
def putP (ext : List Int) (l : List (List Int)) (fs : List Fld) : List Int := l.flatMap (chunkP ext) ++ (48 :: (ext ++ (13 :: 10 :: (linesP fs ++ [13, 10]))))
theorem putB_bytes (l : List (List Int)) (ext : ByteArray) (fs : List Fld) (hl : ∀ c ∈ l, ByteL c) : bytesOf (putB l ext fs) = putP (bytesOf ext) l fs := by
  unfold putB putP
  rw [bytesOf_appendM, putFields_bytes, bytesOf_appendM, bytesOf_appendM, bytesOf_appendM, putChunks_bytes ext l _ hl, show bytesOf crlfB = [13, 10] from rfl, show bytesOf (⟨#[]⟩ : ByteArray) = [] from rfl, show bytesOf (⟨#[48]⟩ : ByteArray) = [48] from rfl]
  simp
theorem run_putP (ext : List Int) (hx : ExtOk e0 ext) (l : List (List Int)) (fs : List Fld) (more : List Int) (hl : ∀ c ∈ l, c.length < 1099511627776) (hf : ∀ f ∈ fs, GoodF f) (h1 : fs.length ≤ e1) (h2 : (linesP fs).length ≤ e2) : ∃ X, runB e0 e1 e2 (putP ext l fs ++ more) = (X, (putP ext l fs).length, 0) ∧ X.data = l.flatten ∧ X.fields = fs := by
  unfold runB putP
  rw [List.append_assoc, run_chunksP ext hx l _ 0 minit hl rfl rfl rfl]
  have hh := run_hexP (e0 := e0) (e1 := e1) (e2 := e2) 0 (by decide) (ext ++ (13 :: 10 :: (linesP fs ++ [13, 10])) ++ more) (0 + (l.flatMap (chunkP ext)).length) (⟨0, 0, 0, 0, 0, [], l.flatten, []⟩ : MSt Fld) rfl rfl rfl
  rw [show hexL 0 = [48] from by rw [hexL_lt (by decide)]; rfl, List.singleton_append] at hh
  rw [List.cons_append]
  refine (fun (Q : ∃ X, mrun (envM e0 e1 e2) (⟨0, 0, 1, 0, 0, [], l.flatten, []⟩ : MSt Fld) (ext ++ (13 :: 10 :: (linesP fs ++ [13, 10])) ++ more) (0 + (l.flatMap (chunkP ext)).length + 1) = (X, (l.flatMap (chunkP ext) ++ (48 :: (ext ++ (13 :: 10 :: (linesP fs ++ [13, 10]))))).length, 0) ∧ X.data = l.flatten ∧ X.fields = fs) => ?_) ?_
  · obtain ⟨X, q, q2⟩ := Q
    exact ⟨X, hh.trans q, q2⟩
  obtain ⟨k, hk⟩ := run_extP (e1 := e1) (e2 := e2) ext hx (linesP fs ++ ([13, 10] ++ more)) (0 + (l.flatMap (chunkP ext)).length + 1) (⟨0, 0, 1, 0, 0, [], l.flatten, []⟩ : MSt Fld) rfl (by simp)
  rw [List.append_assoc, List.cons_append, List.cons_append, List.append_assoc]
  refine ⟨⟨11, 0, k, 0 + fs.length, 0 + (linesP fs).length, [], l.flatten, [] ++ fs⟩, hk.trans ?_, rfl, rfl⟩
  rw [if_neg (by simp), run_fieldsP fs _ _ _ hf rfl rfl (by show 0 + fs.length ≤ e1; omega) (by show 0 + (linesP fs).length ≤ e2; omega)]
  rw [List.cons_append, List.singleton_append, run_on (x := ⟨10, 0, k, 0 + fs.length, 0 + (linesP fs).length, [], l.flatten, [] ++ fs⟩) (by rw [step6 rfl, if_pos rfl]) (by simp), run_fin (x := ⟨11, 0, k, 0 + fs.length, 0 + (linesP fs).length, [], l.flatten, [] ++ fs⟩) (by rw [step10 rfl, if_neg (by simp)]) rfl]
  congr 2
  simp only [List.length_append, List.length_cons, List.length_nil]
  omega
end
end Go.Proofs.YtmmbpbgcobmifaaDoorH
end
section
namespace Go.Proofs.YtmmbpbgcobmifaaDoor.Pr
end Go.Proofs.YtmmbpbgcobmifaaDoor.Pr
namespace Go.Proofs.YtmmbpbgcobmifaaDoorH
open Go Go.RowKit Go.Proofs.YtmmbpbgcobmifaaDoorW.PrintWords Go.Proofs.YtmmbpbgcobmifaaDoorW.PrintLast Go.Proofs.YtmmbpbgcobmifaaDoorW.PrintMore Go.Proofs.YtmmbpbgcobmifaaDoor.Pr
theorem C_block {W : World} {b : Nat} {cs : Array Value} {t : TypeId} {fr : Nat × Nat} (h : W.heap[b]? = some (.cells cs t fr)) (l : List Int) (hl : l.length ≤ 9223372036854775807) (hc : ∀ (j : Nat) (x : Int), l[j]? = some x → cs.toList[j]? = some (Value.int .u8 x)) : Kd.C (Kd.int .u8) W (some ⟨b, 0, none⟩) l.length l := by
  refine ⟨rfl, hl, fun _ => ⟨_, rfl, fun j y hy => ⟨[.int .u8 y], rfl, rfl, fun i u hu => ?_⟩⟩⟩
  have : i = 0 ∧ .int .u8 y = u := by
    cases i with
    | zero => exact ⟨rfl, by simpa using hu⟩
    | succ i => simp at hu
  obtain ⟨rfl, rfl⟩ := this
  show W.cell? ((⟨b, 0, none⟩ : Addr).add (j * 1 + 0)) = _
  rw [show j * 1 + 0 = j by omega]
  exact World.news_of_block h j _ (hc j y hy)
def eg8 : List Int := [51, 13, 10, 97, 98, 99, 13, 10, 48, 13, 10, 13, 10]
theorem eg8_scan : body_Scan.f eg8 10 10 100 = some ([97, 98, 99], [], 13, 13, 0) := by kernel_rfl
theorem eg8_bad : body_Scan.f [51, 120] 10 10 100 = some ([], [], 0, 1, 2) := by kernel_rfl
theorem conv_const (W : World) (cs : Array Value) (n c : Nat) : (convert 24 24 (.slice (some ⟨W.heap.size, 0, none⟩) n c)).run Tryd.prog (W.alloc (.cells cs 5)) = .ok (.slice (some ⟨W.heap.size, 0, none⟩) n c) (W.alloc (.cells cs 5 (cs.size, cs.size + 1))) :=
  Lib.run_convert_bytes_const (P := Tryd.prog) W 24 5 cs n c Tryd.underlying24 Tryd.underlying5
set_option maxHeartbeats 1600000 in
set_option maxRecDepth 100000 in
theorem wakes8_calls (w : World) (hG : TabOk w) :
    Calls Tryd.prog 27 #[] w fun e w' => e = .returned (.bool true) ∧ Below w.heap.size w w' := by
  have HT := Aside0.mk hG
  clear hG
  have hc1 := conv_const (w.alloc (.cells #[.int .i64 10, .int .i64 10, .int .i64 100] 23)) #[.int .u8 51, .int .u8 13, .int .u8 10, .int .u8 97, .int .u8 98, .int .u8 99, .int .u8 13, .int .u8 10, .int .u8 48, .int .u8 13, .int .u8 10, .int .u8 13, .int .u8 10] 13 13
  rw [World.size_alloc] at hc1
  go_enter Tryd.func27, Tryd.ntmps27
  go_wp2_with fail
  have hL := alloc_keep (.cells #[.int .u8 51, .int .u8 13, .int .u8 10, .int .u8 97, .int .u8 98, .int .u8 99, .int .u8 13, .int .u8 10, .int .u8 48, .int .u8 13, .int .u8 10, .int .u8 13, .int .u8 10] 5 (13, 14)) (World.alloc_heap_new w (.cells #[.int .i64 10, .int .i64 10, .int .i64 100] 23))
  have hR := World.alloc_heap_new (w.alloc (.cells #[.int .i64 10, .int .i64 10, .int .i64 100] 23)) (.cells #[.int .u8 51, .int .u8 13, .int .u8 10, .int .u8 97, .int .u8 98, .int .u8 99, .int .u8 13, .int .u8 10, .int .u8 48, .int .u8 13, .int .u8 10, .int .u8 13, .int .u8 10] 5 (13, 14))
  rw [World.size_alloc] at hR
  have hB1 := below_alloc (below_alloc (Below.refl w.heap.size w) (.cells #[.int .i64 10, .int .i64 10, .int .i64 100] 23)) (.cells #[.int .u8 51, .int .u8 13, .int .u8 10, .int .u8 97, .int .u8 98, .int .u8 99, .int .u8 13, .int .u8 10, .int .u8 48, .int .u8 13, .int .u8 10, .int .u8 13, .int .u8 10] 5 (13, 14))
  clear hc1
  generalize (w.alloc (.cells #[.int .i64 10, .int .i64 10, .int .i64 100] 23)).alloc (.cells #[.int .u8 51, .int .u8 13, .int .u8 10, .int .u8 97, .int .u8 98, .int .u8 99, .int .u8 13, .int .u8 10, .int .u8 48, .int .u8 13, .int .u8 10, .int .u8 13, .int .u8 10] 5 (13, 14)) = w1 at *
  have hC1 : Kd.C (Kd.int .u8) w1 (some ⟨w.heap.size + 1, 0, none⟩) eg8.length eg8 := C_block hR eg8 (by decide) (by
    intro j x hj
    match j, hj with
    | 0, hj => cases hj; rfl
    | 1, hj => cases hj; rfl
    | 2, hj => cases hj; rfl
    | 3, hj => cases hj; rfl
    | 4, hj => cases hj; rfl
    | 5, hj => cases hj; rfl
    | 6, hj => cases hj; rfl
    | 7, hj => cases hj; rfl
    | 8, hj => cases hj; rfl
    | 9, hj => cases hj; rfl
    | 10, hj => cases hj; rfl
    | 11, hj => cases hj; rfl
    | 12, hj => cases hj; rfl
    | (j + 13), hj => simp [eg8] at hj)
  refine (body_Scan.calls (some ⟨w.heap.size + 1, 0, none⟩) 13 eg8 10 10 100 _ _ _ _ _ w1 hC1 (by decide) (HT.out.below hB1) eg8_scan).mono ?_
  rintro e w2 ⟨v0, v1, rfl, hv0, hv1, hb2⟩
  obtain ⟨a0, k0, rfl⟩ := Kd.R_slice hv0
  obtain ⟨a1, k1, rfl⟩ := Kd.R_slice hv1
  have hL2 : w2.heap[w.heap.size]? = some (.cells #[.int .i64 10, .int .i64 10, .int .i64 100] 23 (0, 0)) := (hb2.block _ (blk_lt hL)).trans hL
  have m0 : w2.cell? ⟨w.heap.size, 0, none⟩ = some (.int .i64 10) := (blk_cell hL2 0).trans rfl
  have m1 : w2.cell? ⟨w.heap.size, 1, none⟩ = some (.int .i64 10) := (blk_cell hL2 1).trans rfl
  have m2 : w2.cell? ⟨w.heap.size, 2, none⟩ = some (.int .i64 100) := (blk_cell hL2 2).trans rfl
  have HB2 := Aside0.mk (hB1.trans (hb2.mono hB1.size))
  have HV0 := Aside0.mk hv0
  have hlt2 := blk_lt hL2
  have hc2 := conv_const (w2.alloc (.cells #[.slice a0 3 k0, .slice a1 0 k1, .int .i64 13] 57)) #[.int .u8 51, .int .u8 120] 2 2
  rw [World.size_alloc] at hc2
  clear hL hR hB1 hC1 hv0 hv1 hb2 hL2
  simp only [List.length_cons, List.length_nil, Nat.reduceAdd]
  go_wp2_with fail
  have hD2 := alloc_keep (.cells #[.int .u8 51, .int .u8 120] 5 (2, 3)) (World.alloc_heap_new w2 (.cells #[.slice a0 3 k0, .slice a1 0 k1, .int .i64 13] 57))
  have hR := World.alloc_heap_new (w2.alloc (.cells #[.slice a0 3 k0, .slice a1 0 k1, .int .i64 13] 57)) (.cells #[.int .u8 51, .int .u8 120] 5 (2, 3))
  rw [World.size_alloc] at hR
  have hB2 := below_alloc (below_alloc (Below.refl w2.heap.size w2) (.cells #[.slice a0 3 k0, .slice a1 0 k1, .int .i64 13] 57)) (.cells #[.int .u8 51, .int .u8 120] 5 (2, 3))
  clear hc2
  generalize (w2.alloc (.cells #[.slice a0 3 k0, .slice a1 0 k1, .int .i64 13] 57)).alloc (.cells #[.int .u8 51, .int .u8 120] 5 (2, 3)) = w3 at *
  have hC1 : Kd.C (Kd.int .u8) w3 (some ⟨w2.heap.size + 1, 0, none⟩) ([51, 120] : List Int).length [51, 120] := C_block hR [51, 120] (by decide) (by
    intro j x hj
    match j, hj with
    | 0, hj => cases hj; rfl
    | 1, hj => cases hj; rfl
    | (j + 2), hj => simp at hj)
  have HB3 := Aside0.mk (HB2.out.trans (hB2.mono HB2.out.size))
  refine (body_Scan.calls (some ⟨w2.heap.size + 1, 0, none⟩) 2 [51, 120] 10 10 100 _ _ _ _ _ w3 hC1 (by decide) (HT.out.below HB3.out) eg8_bad).mono ?_
  rintro e w4 ⟨v0, v1, rfl, hv0, hv1, hb4⟩
  obtain ⟨b0, l0, rfl⟩ := Kd.R_slice hv0
  obtain ⟨b1, l1, rfl⟩ := Kd.R_slice hv1
  have hD4 : w4.heap[w2.heap.size]? = some (.cells #[.slice a0 3 k0, .slice a1 0 k1, .int .i64 13] 57 (0, 0)) := (hb4.block _ (blk_lt hD2)).trans hD2
  have n0 : w4.cell? ⟨w2.heap.size, 0, none⟩ = some (.slice a0 3 k0) := (blk_cell hD4 0).trans rfl
  have n2 : w4.cell? ⟨w2.heap.size, 2, none⟩ = some (.int .i64 13) := (blk_cell hD4 2).trans rfl
  have hlt4 : w2.heap.size < w4.heap.size := blk_lt hD4
  have hne4 : ¬ w2.heap.size = w4.heap.size := by omega
  have hne5 : ¬ w4.heap.size = w2.heap.size := by omega
  have HB4 := Aside0.mk (HB3.out.trans (hb4.mono HB3.out.size))
  obtain ⟨A0, c0, q0, _, hC0⟩ := Kd.R_reads (Kd.R_below (Kd.R_below HV0.out hB2) hb4)
  cases q0
  have hCA : Kd.C (Kd.int .u8) (w4.alloc (.cells #[.slice b0 0 l0, .slice b1 0 l1, .int .i64 0] 57)) a0 ([97, 98, 99] : List Int).length [97, 98, 99] := Kd.C_below hC0 (below_alloc (Below.refl _ _) _)
  have hcv := Kd.C_string (P := Tryd.prog) (c := k0) Tryd.underlying24 Tryd.underlying5 Tryd.underlying9 hCA
  have hst : strOfNums [97, 98, 99] = ⟨#[97, 98, 99]⟩ := by decide
  rw [hst] at hcv
  have HB5 := Aside0.mk (below_alloc HB4.out (.cells #[.slice b0 0 l0, .slice b1 0 l1, .int .i64 0] 57))
  clear hD2 hR hB2 hC1 hv0 hv1 hb4 hD4 hC0 hCA m0 m1 m2 hst
  simp only [List.length_cons, List.length_nil, Nat.reduceAdd] at hcv ⊢
  go_wp2
  go_ret
  exact ⟨rfl, HB5.out⟩
def catchpitlaw08_wakes.f : Option Bool := some true
theorem catchpitlaw08_wakes.calls (r : Bool) (w : World) (hG : TabOk w) (h : catchpitlaw08_wakes.f = some r) :
    Calls Tryd.prog 27 #[] w fun e w' => e = .returned (.bool r) ∧ Below w.heap.size w w' := by
  cases h
  exact wakes8_calls w hG
end Go.Proofs.YtmmbpbgcobmifaaDoorH
end
section
namespace Go.Proofs.YtmmbpbgcobmifaaDoor.Pr
open Go.RowKit Go.Proofs.YtmmbpbgcobmifaaDoorH Go.Proofs.YtmmbpbgcobmifaaDoorW.PrintWords Go.Proofs.YtmmbpbgcobmifaaDoorW.PrintLast Go.Proofs.YtmmbpbgcobmifaaDoorW.PrintMore
attribute [local go_sem] max2_int min2_int max_two min_two max_three min_three max_four min_four   -- for this text's walks alone
set_option linter.unusedVariables false
set_option linter.unusedSimpArgs false
def catchpitref05_Great.l0 : Nat → List (S53) → Int → Int → Option (Bool)
  | 0, _, _, _ => none
  | k + 1, x0, x3, x4 => if x4 < (x0.length : Int) then (if x3 ≤ 2000 then (if 0 ≤ x4 then (catchpitref05_Great.l0 k x0 (wrap64 ((wrap64 ((wrap64 (x3 + (((rd_T53 x0 x4).f0).size : Int))) + (((rd_T53 x0 x4).f1).size : Int))) + 1)) (wrap64 (x4 + 1))) else (none)) else (some (decide (x3 > 2000)))) else (some (decide (x3 > 2000)))
def catchpitref05_Great.f (k : Nat) (l0 : List (S53)) : Option (Bool) := catchpitref05_Great.l0 k l0 0 0
theorem catchpitref05_Great.mono_l : ∀ k, (∀ y0 y1 y2, LeO (catchpitref05_Great.l0 k y0 y1 y2) (catchpitref05_Great.l0 (k + 1) y0 y1 y2))
  | 0 => fun _ _ _ r h => by simp [catchpitref05_Great.l0] at h
  | k + 1 => by
    have ih0 := catchpitref05_Great.mono_l k
    · intro y0 y1 y2
      unfold catchpitref05_Great.l0
      repeat' first
      | (with_reducible exact ih0 _ _ _)
      | (with_reducible exact LeO.refl _)
      | (with_reducible exact LeO.none _)
      | (with_reducible refine LeO.ite ?_ ?_)
      | (with_reducible refine LeO.bind ?_ (fun _ => ?_))
      | exact ih0 _ _ _
      | exact LeO.none _
      | refine LeO.ite ?_ ?_
      | refine LeO.bind ?_ (fun _ => ?_)
theorem catchpitref05_Great.mono : ∀ a0 k, LeO (catchpitref05_Great.f k a0) (catchpitref05_Great.f (k + 1) a0) := by
  intro a0 k
  have ih0 := catchpitref05_Great.mono_l k
  unfold catchpitref05_Great.f
  repeat' first
      | (with_reducible exact ih0 _ _ _)
      | (with_reducible exact LeO.refl _)
      | (with_reducible exact LeO.none _)
      | (with_reducible refine LeO.ite ?_ ?_)
      | (with_reducible refine LeO.bind ?_ (fun _ => ?_))
      | exact ih0 _ _ _
      | exact LeO.none _
      | refine LeO.ite ?_ ?_
      | refine LeO.bind ?_ (fun _ => ?_)
end Go.Proofs.YtmmbpbgcobmifaaDoor.Pr
end
section
namespace Go.Proofs.YtmmbpbgcobmifaaDoor.Pr
open Go.RowKit Go.Proofs.YtmmbpbgcobmifaaDoorH Go.Proofs.YtmmbpbgcobmifaaDoorW.PrintWords Go.Proofs.YtmmbpbgcobmifaaDoorW.PrintLast Go.Proofs.YtmmbpbgcobmifaaDoorW.PrintMore
attribute [local go_sem] max2_int min2_int max_two min_two max_three min_three max_four min_four   -- for this text's walks alone
set_option linter.unusedVariables false
set_option linter.unusedSimpArgs false
def catchpitref08_Join.l0 : Nat → List (List Int) → List Int → Int → Option (List Int)
  | 0, _, _, _ => none
  | k + 1, x0, x3, x4 => if x4 < (x0.length : Int) then (if 0 ≤ x4 then (if x3.length + (rd_L6 x0 x4).length < 140737488355328 then (catchpitref08_Join.l0 k x0 (x3 ++ (rd_L6 x0 x4)) (wrap64 (x4 + 1))) else (none)) else (none)) else (some x3)
def catchpitref08_Join.f (k : Nat) (l0 : List (List Int)) : Option (List Int) := catchpitref08_Join.l0 k l0 ([] : List Int) 0
theorem catchpitref08_Join.mono_l : ∀ k, (∀ y0 y1 y2, LeO (catchpitref08_Join.l0 k y0 y1 y2) (catchpitref08_Join.l0 (k + 1) y0 y1 y2))
  | 0 => fun _ _ _ r h => by simp [catchpitref08_Join.l0] at h
  | k + 1 => by
    have ih0 := catchpitref08_Join.mono_l k
    · intro y0 y1 y2
      unfold catchpitref08_Join.l0
      repeat' first
      | (with_reducible exact ih0 _ _ _)
      | (with_reducible exact LeO.refl _)
      | (with_reducible exact LeO.none _)
      | (with_reducible refine LeO.ite ?_ ?_)
      | (with_reducible refine LeO.bind ?_ (fun _ => ?_))
      | exact ih0 _ _ _
      | exact LeO.none _
      | refine LeO.ite ?_ ?_
      | refine LeO.bind ?_ (fun _ => ?_)
theorem catchpitref08_Join.mono : ∀ a0 k, LeO (catchpitref08_Join.f k a0) (catchpitref08_Join.f (k + 1) a0) := by
  intro a0 k
  have ih0 := catchpitref08_Join.mono_l k
  unfold catchpitref08_Join.f
  repeat' first
      | (with_reducible exact ih0 _ _ _)
      | (with_reducible exact LeO.refl _)
      | (with_reducible exact LeO.none _)
      | (with_reducible refine LeO.ite ?_ ?_)
      | (with_reducible refine LeO.bind ?_ (fun _ => ?_))
      | exact ih0 _ _ _
      | exact LeO.none _
      | refine LeO.ite ?_ ?_
      | refine LeO.bind ?_ (fun _ => ?_)
end Go.Proofs.YtmmbpbgcobmifaaDoor.Pr
end
section
namespace Go.Proofs.YtmmbpbgcobmifaaDoor.Pr
end Go.Proofs.YtmmbpbgcobmifaaDoor.Pr
namespace Go.Proofs.YtmmbpbgcobmifaaDoor.Py
set_option linter.unusedVariables false
set_option linter.unusedSimpArgs false
open Go Go.RowKit Go.Proofs.YtmmbpbgcobmifaaDoorH Go.Proofs.YtmmbpbgcobmifaaDoor.Pr Go.Proofs.YtmmbpbgcobmifaaDoorW.PrintWords Go.Proofs.YtmmbpbgcobmifaaDoorW.PrintLast Go.Proofs.YtmmbpbgcobmifaaDoorW.PrintMore Go.Proofs.YtmmbpbgcobmifaaDoorM
def totL (l : List (List Int)) : Nat := (l.map List.length).sum
theorem flatten_length (l : List (List Int)) : l.flatten.length = totL l := by
  unfold totL
  exact List.length_flatten
theorem totL_mem : ∀ (l : List (List Int)) (c : List Int), c ∈ l → c.length ≤ totL l
  | [], c, h => absurd h List.not_mem_nil
  | d :: l, c, h => by
    have e : totL (d :: l) = d.length + totL l := by unfold totL; simp
    rcases List.mem_cons.1 h with rfl | h
    · omega
    · have := totL_mem l c h
      omega
theorem chunkP_len (ext c : List Int) (hc : c.length < 1000000) : (chunkP ext c).length ≤ 20 + ext.length + c.length := by
  unfold chunkP
  split
  · simp
  · have := hexL_le16 (n := c.length) (by omega)
    simp only [List.length_append, List.length_cons, List.length_nil]
    omega
theorem chunksP_len (ext : List Int) : ∀ (l : List (List Int)), (∀ c ∈ l, c.length < 1000000) → (l.flatMap (chunkP ext)).length ≤ (20 + ext.length) * l.length + totL l
  | [], _ => by simp
  | c :: l, h => by
    have h1 := chunkP_len ext c (h c List.mem_cons_self)
    have h2 := chunksP_len ext l (fun d hd => h d (List.mem_cons_of_mem _ hd))
    have e : totL (c :: l) = c.length + totL l := by unfold totL; simp
    rw [List.flatMap_cons, List.length_append, List.length_cons, e, Nat.mul_succ]
    omega
theorem linesP_len : ∀ (l : List Fld), (∀ f ∈ l, GoodF f) → (linesP l).length ≤ 4 * sumF l
  | [], _ => by simp [linesP]
  | f :: l, h => by
    have h1 := linesP_len l (fun g hg => h g (List.mem_cons_of_mem _ hg))
    obtain ⟨g0, g1, _⟩ := h f List.mem_cons_self
    have e : linesP (f :: l) = lineP f ++ linesP l := rfl
    have hz := putS_size f.f0 f.f1
    have hz2 : (lineP f).length ≤ f.f0.size + f.f1.size + 4 := by
      unfold lineP
      rw [fldS_putS f g0 g1, List.length_append, bytesOf_length]
      show (putS f.f0 f.f1).size + 2 ≤ _
      omega
    rw [e, List.length_append, sumF_cons]
    omega
theorem putP_len (ext : List Int) (l : List (List Int)) (fs : List Fld) (hl : ∀ c ∈ l, c.length < 1000000) (hf : ∀ f ∈ fs, GoodF f) : (putP ext l fs).length ≤ (20 + ext.length) * (l.length + 1) + totL l + 4 * sumF fs := by
  have h1 := chunksP_len ext l hl
  have h2 := linesP_len fs hf
  unfold putP
  simp only [List.length_append, List.length_cons, List.length_nil]
  rw [Nat.mul_succ]
  omega
theorem smallPut_of (l : List (List Int)) (ext : ByteArray) (fs : List Fld) (h1 : l.length ≤ 1000) (h2 : totL l ≤ 1000000) (he : ext.size ≤ 1000) (hs : sumF fs ≤ 2000) : smallPut l ext fs = true := by
  unfold smallPut
  simp only [Bool.and_eq_true, decide_eq_true_eq, List.all_eq_true]
  have hn := sumF_length fs
  refine ⟨⟨⟨⟨by omega, by omega⟩, by omega⟩, fun c hc => ?_⟩, fun f hf => ?_⟩
  · have := totL_mem l c hc
    omega
  · have := sumF_at fs f hf
    omega
def wfPutB (l : List (List Int)) (fs : List Fld) : Bool := (l.all fun c => byteB c && decide (c.length ≤ 140737488351232)) && (fs.all fun f => decide (f.f0.size ≤ 140737488351232) && decide (f.f1.size ≤ 140737488351232)) && decide (fs.length ≤ 140737488351232)
def catchpitlaw08_BodyPuts.f (l : List (List Int)) (fs : List Fld) (more : List Int) : Option Bool := if wfPutB l fs = true ∧ byteB more = true then some true else none
end Go.Proofs.YtmmbpbgcobmifaaDoor.Py
end
