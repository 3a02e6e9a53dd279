import Derived.Test.YtdkecmjoenfjdaaDoorZBlockJoinsP1
import Derived.Test.YtdkecmjoenfjdaaDoorZBlockJoinsP3
import Derived.Test.YtdkecmjoenfjdaaDoorZBlockJoinsP2
import Derived.Test.YtdkecmjoenfjdaaDoorRows
import Derived.LaidSub
import Derived.MakeChecks
import Derived.ProofKit
import Derived.OpenShut
import Derived.LaidMore
import Derived.Deep.Slices
import Derived.SizedLaws
import Derived.HandedShaped
import Derived.Handed
section
namespace Go.Proofs.YtdkecmjoenfjdaaDoor.Pr
open Go.RowKit Go.Proofs.YtdkecmjoenfjdaaDoorH Go.Proofs.YtdkecmjoenfjdaaDoorW.PrintWords Go.Proofs.YtdkecmjoenfjdaaDoorW.PrintLast Go.Proofs.YtdkecmjoenfjdaaDoorW.PrintMore
attribute [local go_sem] max2_int min2_int max_two min_two max_three min_three max_four min_four   -- for this text's walks alone
set_option linter.unusedVariables false
set_option linter.unusedSimpArgs false
mutual
def catchpitref06_Wrong.j1 : Nat → ByteArray → Int → Option (Int)
  | 0, _, _ => none
  | k + 1, x0, x3 => if x3 = (x0.size : Int) then (some (-1)) else (if 0 ≤ x3 then (if x3 < (x0.size : Int) then (if (bt x0 x3) = 58 then (catchpitref06_Wrong.j2 k x0 x3 (x3 == 0)) else (catchpitref06_Wrong.j2 k x0 x3 true)) else (none)) else (none))
def catchpitref06_Wrong.j2 : Nat → ByteArray → Int → Bool → Option (Int)
  | 0, _, _, _ => none
  | k + 1, x0, x3, x29 => if x29 = true then (some x3) else (catchpitref06_Wrong.l1 k x0 (wrap64 (x3 + 1)))
def catchpitref06_Wrong.j4 : Nat → ByteArray → Int → Option (Int)
  | 0, _, _ => none
  | k + 1, x0, x3 => if x3 = (x0.size : Int) then (some (-1)) else (if 0 ≤ x3 then (if x3 < (x0.size : Int) then (if (bt x0 x3) = 13 then (if (wrap64 (x3 + 1)) < (x0.size : Int) then (if 0 ≤ (wrap64 (x3 + 1)) then (if (bt x0 (wrap64 (x3 + 1))) = 10 then (some (-1)) else (some (wrap64 (x3 + 1)))) else (none)) else (some (-1))) else (some x3)) else (none)) else (none))
def catchpitref06_Wrong.l1 : Nat → ByteArray → Int → Option (Int)
  | 0, _, _ => none
  | k + 1, x0, x3 => if x3 < (x0.size : Int) then (if 0 ≤ x3 then ((catchpitref02_Byte.f (bt x0 x3)).bind fun t304 => (if t304 = true then (catchpitref06_Wrong.l1 k x0 (wrap64 (x3 + 1))) else (catchpitref06_Wrong.j4 k x0 x3))) else (none)) else (catchpitref06_Wrong.j4 k x0 x3)
def catchpitref06_Wrong.l0 : Nat → ByteArray → Int → Option (Int)
  | 0, _, _ => none
  | k + 1, x0, x3 => if x3 < (x0.size : Int) then (if 0 ≤ x3 then (if x3 ≤ (wrap64 (x3 + 1)) then (if (wrap64 (x3 + 1)) ≤ (x0.size : Int) then ((catchpitref02_Token.f k (x0.extract (x3 : Int).toNat ((wrap64 (x3 + 1)) : Int).toNat)).bind fun t303 => (if t303 = true then (catchpitref06_Wrong.l0 k x0 (wrap64 (x3 + 1))) else (catchpitref06_Wrong.j1 k x0 x3))) else (none)) else (none)) else (none)) else (catchpitref06_Wrong.j1 k x0 x3)
end
def catchpitref06_Wrong.f (k : Nat) (a0 : ByteArray) : Option (Int) := catchpitref06_Wrong.l0 k a0 0
theorem catchpitref06_Wrong.mono_l : ∀ k, (∀ y0 y1, LeO (catchpitref06_Wrong.j1 k y0 y1) (catchpitref06_Wrong.j1 (k + 1) y0 y1)) ∧ (∀ y0 y1 y2, LeO (catchpitref06_Wrong.j2 k y0 y1 y2) (catchpitref06_Wrong.j2 (k + 1) y0 y1 y2)) ∧ (∀ y0 y1, LeO (catchpitref06_Wrong.j4 k y0 y1) (catchpitref06_Wrong.j4 (k + 1) y0 y1)) ∧ (∀ y0 y1, LeO (catchpitref06_Wrong.l1 k y0 y1) (catchpitref06_Wrong.l1 (k + 1) y0 y1)) ∧ (∀ y0 y1, LeO (catchpitref06_Wrong.l0 k y0 y1) (catchpitref06_Wrong.l0 (k + 1) y0 y1))
  | 0 => ⟨fun _ _ r h => by simp [catchpitref06_Wrong.j1] at h, fun _ _ _ r h => by simp [catchpitref06_Wrong.j2] at h, fun _ _ r h => by simp [catchpitref06_Wrong.j4] at h, fun _ _ r h => by simp [catchpitref06_Wrong.l1] at h, fun _ _ r h => by simp [catchpitref06_Wrong.l0] at h⟩
  | k + 1 => by
    obtain ⟨ih0, ih1, ih2, ih3, ih4⟩ := catchpitref06_Wrong.mono_l k
    refine ⟨?_, ?_, ?_, ?_, ?_⟩
    · intro y0 y1
      unfold catchpitref06_Wrong.j1
      repeat' first
      | (with_reducible exact ih0 _ _)
      | (with_reducible exact ih1 _ _ _)
      | (with_reducible exact ih2 _ _)
      | (with_reducible exact ih3 _ _)
      | (with_reducible exact ih4 _ _)
      | (with_reducible exact catchpitref02_Token.mono _ _)
      | (with_reducible exact LeO.refl _)
      | (with_reducible exact LeO.none _)
      | (with_reducible refine LeO.ite ?_ ?_)
      | (with_reducible refine LeO.bind ?_ (fun _ => ?_))
      | exact ih0 _ _
      | exact ih1 _ _ _
      | exact ih2 _ _
      | exact ih3 _ _
      | exact ih4 _ _
      | exact catchpitref02_Token.mono _ _
      | exact LeO.none _
      | refine LeO.ite ?_ ?_
      | refine LeO.bind ?_ (fun _ => ?_)
    · intro y0 y1 y2
      unfold catchpitref06_Wrong.j2
      repeat' first
      | (with_reducible exact ih0 _ _)
      | (with_reducible exact ih1 _ _ _)
      | (with_reducible exact ih2 _ _)
      | (with_reducible exact ih3 _ _)
      | (with_reducible exact ih4 _ _)
      | (with_reducible exact catchpitref02_Token.mono _ _)
      | (with_reducible exact LeO.refl _)
      | (with_reducible exact LeO.none _)
      | (with_reducible refine LeO.ite ?_ ?_)
      | (with_reducible refine LeO.bind ?_ (fun _ => ?_))
      | exact ih0 _ _
      | exact ih1 _ _ _
      | exact ih2 _ _
      | exact ih3 _ _
      | exact ih4 _ _
      | exact catchpitref02_Token.mono _ _
      | exact LeO.none _
      | refine LeO.ite ?_ ?_
      | refine LeO.bind ?_ (fun _ => ?_)
    · intro y0 y1
      unfold catchpitref06_Wrong.j4
      repeat' first
      | (with_reducible exact ih0 _ _)
      | (with_reducible exact ih1 _ _ _)
      | (with_reducible exact ih2 _ _)
      | (with_reducible exact ih3 _ _)
      | (with_reducible exact ih4 _ _)
      | (with_reducible exact catchpitref02_Token.mono _ _)
      | (with_reducible exact LeO.refl _)
      | (with_reducible exact LeO.none _)
      | (with_reducible refine LeO.ite ?_ ?_)
      | (with_reducible refine LeO.bind ?_ (fun _ => ?_))
      | exact ih0 _ _
      | exact ih1 _ _ _
      | exact ih2 _ _
      | exact ih3 _ _
      | exact ih4 _ _
      | exact catchpitref02_Token.mono _ _
      | exact LeO.none _
      | refine LeO.ite ?_ ?_
      | refine LeO.bind ?_ (fun _ => ?_)
    · intro y0 y1
      unfold catchpitref06_Wrong.l1
      repeat' first
      | (with_reducible exact ih0 _ _)
      | (with_reducible exact ih1 _ _ _)
      | (with_reducible exact ih2 _ _)
      | (with_reducible exact ih3 _ _)
      | (with_reducible exact ih4 _ _)
      | (with_reducible exact catchpitref02_Token.mono _ _)
      | (with_reducible exact LeO.refl _)
      | (with_reducible exact LeO.none _)
      | (with_reducible refine LeO.ite ?_ ?_)
      | (with_reducible refine LeO.bind ?_ (fun _ => ?_))
      | exact ih0 _ _
      | exact ih1 _ _ _
      | exact ih2 _ _
      | exact ih3 _ _
      | exact ih4 _ _
      | exact catchpitref02_Token.mono _ _
      | exact LeO.none _
      | refine LeO.ite ?_ ?_
      | refine LeO.bind ?_ (fun _ => ?_)
    · intro y0 y1
      unfold catchpitref06_Wrong.l0
      repeat' first
      | (with_reducible exact ih0 _ _)
      | (with_reducible exact ih1 _ _ _)
      | (with_reducible exact ih2 _ _)
      | (with_reducible exact ih3 _ _)
      | (with_reducible exact ih4 _ _)
      | (with_reducible exact catchpitref02_Token.mono _ _)
      | (with_reducible exact LeO.refl _)
      | (with_reducible exact LeO.none _)
      | (with_reducible refine LeO.ite ?_ ?_)
      | (with_reducible refine LeO.bind ?_ (fun _ => ?_))
      | exact ih0 _ _
      | exact ih1 _ _ _
      | exact ih2 _ _
      | exact ih3 _ _
      | exact ih4 _ _
      | exact catchpitref02_Token.mono _ _
      | exact LeO.none _
      | refine LeO.ite ?_ ?_
      | refine LeO.bind ?_ (fun _ => ?_)
theorem catchpitref06_Wrong.mono : ∀ a0 k, LeO (catchpitref06_Wrong.f k a0) (catchpitref06_Wrong.f (k + 1) a0) := by
  intro a0 k
  obtain ⟨ih0, ih1, ih2, ih3, ih4⟩ := catchpitref06_Wrong.mono_l k
  unfold catchpitref06_Wrong.f
  repeat' first
      | (with_reducible exact ih0 _ _)
      | (with_reducible exact ih1 _ _ _)
      | (with_reducible exact ih2 _ _)
      | (with_reducible exact ih3 _ _)
      | (with_reducible exact ih4 _ _)
      | (with_reducible exact catchpitref02_Token.mono _ _)
      | (with_reducible exact LeO.refl _)
      | (with_reducible exact LeO.none _)
      | (with_reducible refine LeO.ite ?_ ?_)
      | (with_reducible refine LeO.bind ?_ (fun _ => ?_))
      | exact ih0 _ _
      | exact ih1 _ _ _
      | exact ih2 _ _
      | exact ih3 _ _
      | exact ih4 _ _
      | exact catchpitref02_Token.mono _ _
      | exact LeO.none _
      | refine LeO.ite ?_ ?_
      | refine LeO.bind ?_ (fun _ => ?_)
end Go.Proofs.YtdkecmjoenfjdaaDoor.Pr
end
section
namespace Go.Proofs.YtdkecmjoenfjdaaDoor.Pr
open Go.RowKit Go.Proofs.YtdkecmjoenfjdaaDoorH Go.Proofs.YtdkecmjoenfjdaaDoorW.PrintWords Go.Proofs.YtdkecmjoenfjdaaDoorW.PrintLast Go.Proofs.YtdkecmjoenfjdaaDoorW.PrintMore
attribute [local go_sem] max2_int min2_int max_two min_two max_three min_three max_four min_four   -- for this text's walks alone
set_option linter.unusedVariables false
set_option linter.unusedSimpArgs false
def catchpitref06_End.l0 : Nat → ByteArray → Int → Option (Int)
  | 0, _, _ => none
  | k + 1, x0, x3 => if (wrap64 (x3 + 1)) < (x0.size : Int) then (if 0 ≤ x3 then (if x3 < (x0.size : Int) then (if (bt x0 x3) = 13 then (if 0 ≤ (wrap64 (x3 + 1)) then (if (bt x0 (wrap64 (x3 + 1))) = 10 then (some (wrap64 (x3 + 2))) else (catchpitref06_End.l0 k x0 (wrap64 (x3 + 1)))) else (none)) else (catchpitref06_End.l0 k x0 (wrap64 (x3 + 1)))) else (none)) else (none)) else (some (-1))
def catchpitref06_End.f (k : Nat) (a0 : ByteArray) : Option (Int) := catchpitref06_End.l0 k a0 0
theorem catchpitref06_End.mono_l : ∀ k, (∀ y0 y1, LeO (catchpitref06_End.l0 k y0 y1) (catchpitref06_End.l0 (k + 1) y0 y1))
  | 0 => fun _ _ r h => by simp [catchpitref06_End.l0] at h
  | k + 1 => by
    have ih0 := catchpitref06_End.mono_l k
    · intro y0 y1
      unfold catchpitref06_End.l0
      repeat' first
      | (with_reducible exact ih0 _ _)
      | (with_reducible exact LeO.refl _)
      | (with_reducible exact LeO.none _)
      | (with_reducible refine LeO.ite ?_ ?_)
      | (with_reducible refine LeO.bind ?_ (fun _ => ?_))
      | exact ih0 _ _
      | exact LeO.none _
      | refine LeO.ite ?_ ?_
      | refine LeO.bind ?_ (fun _ => ?_)
theorem catchpitref06_End.mono : ∀ a0 k, LeO (catchpitref06_End.f k a0) (catchpitref06_End.f (k + 1) a0) := by
  intro a0 k
  have ih0 := catchpitref06_End.mono_l k
  unfold catchpitref06_End.f
  repeat' first
      | (with_reducible exact ih0 _ _)
      | (with_reducible exact LeO.refl _)
      | (with_reducible exact LeO.none _)
      | (with_reducible refine LeO.ite ?_ ?_)
      | (with_reducible refine LeO.bind ?_ (fun _ => ?_))
      | exact ih0 _ _
      | exact LeO.none _
      | refine LeO.ite ?_ ?_
      | refine LeO.bind ?_ (fun _ => ?_)
end Go.Proofs.YtdkecmjoenfjdaaDoor.Pr
end
section
namespace Go.Proofs.YtdkecmjoenfjdaaDoorH
open Go.RowKit Go.Proofs.YtdkecmjoenfjdaaDoorW.PrintWords Go.Proofs.YtdkecmjoenfjdaaDoorW.PrintLast Go.Proofs.YtdkecmjoenfjdaaDoorW.PrintMore Go.Proofs.YtdkecmjoenfjdaaDoor.Pr
def scanL : Nat → List UInt8 → Int → Nat × Int
  | i, [], _ => (i, 4)
  | i, c :: l, st => if (nxt st (c.toNat : Int)).2 = true then (if (nxt st (c.toNat : Int)).1 = 5 then (i + 1, 0) else scanL (i + 1) l (nxt st (c.toNat : Int)).1) else (i, 2)
theorem drop_byte (s : ByteArray) (i : Nat) (h : i < s.size) : ∃ c, s.data.toList.drop i = c :: s.data.toList.drop (i + 1) ∧ bt s (i : Int) = (c.toNat : Int) := by
  have hi : i < s.data.toList.length := by rw [← size_eq_length]; exact h
  refine ⟨s.data.toList[i], List.drop_eq_getElem_cons hi, ?_⟩
  rw [bt_nat s i h, List.getD_eq_getElem?_getD, List.getElem?_eq_getElem hi]
  rfl
theorem scanP_L (s : ByteArray) : ∀ (k i : Nat) (st : Int), i ≤ s.size → s.size - i < k → scanP k s i st = scanL i (s.data.toList.drop i) st
  | 0, i, st, h1, h2 => by omega
  | k + 1, i, st, h1, h2 => by
    by_cases h : i < s.size
    · obtain ⟨c, hd, hb⟩ := drop_byte s i h
      rw [scanP, if_pos h, hd, scanL, hb, scanP_L s k (i + 1) _ (by omega) (by omega)]
    · rw [scanP, if_neg h, List.drop_eq_nil_of_le (by rw [← size_eq_length]; omega), scanL]
theorem scanP_whole (s : ByteArray) : scanP (s.size + 1) s 0 0 = scanL 0 s.data.toList 0 := by
  rw [scanP_L s _ 0 0 (Nat.zero_le _) (by omega), List.drop_zero]
theorem scanL_ge : ∀ (l : List UInt8) (i : Nat) (st : Int), i ≤ (scanL i l st).1 ∧ (scanL i l st).1 ≤ i + l.length
  | [], i, st => ⟨Nat.le_refl _, Nat.le_refl _⟩
  | c :: l, i, st => by
    rw [scanL]
    split
    · split
      · simp only [List.length_cons]; omega
      · have := scanL_ge l (i + 1) (nxt st (c.toNat : Int)).1
        simp only [List.length_cons]; omega
    · simp only [List.length_cons]; omega
end Go.Proofs.YtdkecmjoenfjdaaDoorH
end
section
namespace Go.Proofs.YtdkecmjoenfjdaaDoor.Pr
open Go.RowKit Go.Proofs.YtdkecmjoenfjdaaDoorH Go.Proofs.YtdkecmjoenfjdaaDoorW.PrintWords Go.Proofs.YtdkecmjoenfjdaaDoorW.PrintLast Go.Proofs.YtdkecmjoenfjdaaDoorW.PrintMore
attribute [local go_sem] max2_int min2_int max_two min_two max_three min_three max_four min_four   -- for this text's walks alone
set_option linter.unusedVariables false
set_option linter.unusedSimpArgs false
mutual
def catchpitref06_Scan.l0 : Nat → ByteArray → List (S24) → Int → Option ((List (S24)) × Int × Int)
  | 0, _, _, _ => none
  | k + 1, x0, x3, x4 => if 0 ≤ x4 then (if x4 ≤ (x0.size : Int) then (if ((x0.extract (x4 : Int).toNat x0.size).size : Int) = 0 then (catchpitref06_Scan.j1 k x0 x3 x4 (x0.extract (x4 : Int).toNat x0.size) true) else (catchpitref06_Scan.j1 k x0 x3 x4 (x0.extract (x4 : Int).toNat x0.size) ((x0.extract (x4 : Int).toNat x0.size).toList == ([13] : List UInt8)))) else (none)) else (none)
def catchpitref06_Scan.j1 : Nat → ByteArray → List (S24) → Int → ByteArray → Bool → Option ((List (S24)) × Int × Int)
  | 0, _, _, _, _, _ => none
  | k + 1, x0, x3, x4, x5, x19 => if x19 = true then (some (([] : List (S24)), (x0.size : Int), 4)) else (if 0 < (x5.size : Int) then (if (bt x5 0) = 13 then (if 1 < (x5.size : Int) then (if (bt x5 1) = 10 then (some (x3, wrap64 (x4 + 2), 0)) else (some (([] : List (S24)), wrap64 (x4 + 1), 2))) else (none)) else ((catchpitref06_Wrong.f k x5).bind fun t306 => (if t306 ≥ 0 then (some (([] : List (S24)), wrap64 (x4 + t306), 2)) else ((catchpitref06_End.f k x5).bind fun t307 => (if t307 < 0 then (some (([] : List (S24)), (x0.size : Int), 4)) else (if 0 ≤ (wrap64 (t307 - 2)) then (if (wrap64 (t307 - 2)) ≤ (x5.size : Int) then ((catchpitref05_Parse.f k (x5.extract 0 ((wrap64 (t307 - 2)) : Int).toNat)).bind fun bt308 => (if x3.length < 4398046511104 then (catchpitref06_Scan.l0 k x0 (x3 ++ [(⟨bt308.1, bt308.2.1⟩ : S24)]) (wrap64 (x4 + t307))) else (none))) else (none)) else (none))))))) else (none))
end
def catchpitref06_Scan.f (k : Nat) (a0 : ByteArray) : Option ((List (S24)) × Int × Int) := catchpitref06_Scan.l0 k a0 ([] : List (S24)) 0
theorem catchpitref06_Scan.mono_l : ∀ k, (∀ y0 y1 y2, LeO (catchpitref06_Scan.l0 k y0 y1 y2) (catchpitref06_Scan.l0 (k + 1) y0 y1 y2)) ∧ (∀ y0 y1 y2 y3 y4, LeO (catchpitref06_Scan.j1 k y0 y1 y2 y3 y4) (catchpitref06_Scan.j1 (k + 1) y0 y1 y2 y3 y4))
  | 0 => ⟨fun _ _ _ r h => by simp [catchpitref06_Scan.l0] at h, fun _ _ _ _ _ r h => by simp [catchpitref06_Scan.j1] at h⟩
  | k + 1 => by
    obtain ⟨ih0, ih1⟩ := catchpitref06_Scan.mono_l k
    refine ⟨?_, ?_⟩
    · intro y0 y1 y2
      unfold catchpitref06_Scan.l0
      repeat' first
      | (with_reducible exact ih0 _ _ _)
      | (with_reducible exact ih1 _ _ _ _ _)
      | (with_reducible exact catchpitref05_Parse.mono _ _)
      | (with_reducible exact catchpitref06_End.mono _ _)
      | (with_reducible exact catchpitref06_Wrong.mono _ _)
      | (with_reducible exact LeO.refl _)
      | (with_reducible exact LeO.none _)
      | (with_reducible refine LeO.ite ?_ ?_)
      | (with_reducible refine LeO.bind ?_ (fun _ => ?_))
      | exact ih0 _ _ _
      | exact ih1 _ _ _ _ _
      | exact catchpitref05_Parse.mono _ _
      | exact catchpitref06_End.mono _ _
      | exact catchpitref06_Wrong.mono _ _
      | exact LeO.none _
      | refine LeO.ite ?_ ?_
      | refine LeO.bind ?_ (fun _ => ?_)
    · intro y0 y1 y2 y3 y4
      unfold catchpitref06_Scan.j1
      repeat' first
      | (with_reducible exact ih0 _ _ _)
      | (with_reducible exact ih1 _ _ _ _ _)
      | (with_reducible exact catchpitref05_Parse.mono _ _)
      | (with_reducible exact catchpitref06_End.mono _ _)
      | (with_reducible exact catchpitref06_Wrong.mono _ _)
      | (with_reducible exact LeO.refl _)
      | (with_reducible exact LeO.none _)
      | (with_reducible refine LeO.ite ?_ ?_)
      | (with_reducible refine LeO.bind ?_ (fun _ => ?_))
      | exact ih0 _ _ _
      | exact ih1 _ _ _ _ _
      | exact catchpitref05_Parse.mono _ _
      | exact catchpitref06_End.mono _ _
      | exact catchpitref06_Wrong.mono _ _
      | exact LeO.none _
      | refine LeO.ite ?_ ?_
      | refine LeO.bind ?_ (fun _ => ?_)
theorem catchpitref06_Scan.mono : ∀ a0 k, LeO (catchpitref06_Scan.f k a0) (catchpitref06_Scan.f (k + 1) a0) := by
  intro a0 k
  obtain ⟨ih0, ih1⟩ := catchpitref06_Scan.mono_l k
  unfold catchpitref06_Scan.f
  repeat' first
      | (with_reducible exact ih0 _ _ _)
      | (with_reducible exact ih1 _ _ _ _ _)
      | (with_reducible exact catchpitref05_Parse.mono _ _)
      | (with_reducible exact catchpitref06_End.mono _ _)
      | (with_reducible exact catchpitref06_Wrong.mono _ _)
      | (with_reducible exact LeO.refl _)
      | (with_reducible exact LeO.none _)
      | (with_reducible refine LeO.ite ?_ ?_)
      | (with_reducible refine LeO.bind ?_ (fun _ => ?_))
      | exact ih0 _ _ _
      | exact ih1 _ _ _ _ _
      | exact catchpitref05_Parse.mono _ _
      | exact catchpitref06_End.mono _ _
      | exact catchpitref06_Wrong.mono _ _
      | exact LeO.none _
      | refine LeO.ite ?_ ?_
      | refine LeO.bind ?_ (fun _ => ?_)
def catchpitlaw06_BlockScans.f (k : Nat) (a0 : ByteArray) : Option (Bool) := (catchpitlaw06_wakes.f).bind fun t315 => (if t315 = true then (if (a0.size : Int) > 1000 then (some true) else ((block_Scan.f a0).bind fun bt316 => ((catchpitref06_Scan.f k a0).bind fun bt321 => ((catchpitref05_Fields.f k bt316.1 bt321.1).bind fun t327 => (if t327 = true then (if bt316.2.1 = bt321.2.1 then (some (bt316.2.2 == bt321.2.2)) else (some false)) else (some false)))))) else (some false))
theorem catchpitlaw06_BlockScans.mono : ∀ a0 k, LeO (catchpitlaw06_BlockScans.f k a0) (catchpitlaw06_BlockScans.f (k + 1) a0) := by
  intro a0 k
  unfold catchpitlaw06_BlockScans.f
  repeat' first
      | (with_reducible exact catchpitref05_Fields.mono _ _ _)
      | (with_reducible exact catchpitref06_Scan.mono _ _)
      | (with_reducible exact LeO.refl _)
      | (with_reducible exact LeO.none _)
      | (with_reducible refine LeO.ite ?_ ?_)
      | (with_reducible refine LeO.bind ?_ (fun _ => ?_))
      | exact catchpitref05_Fields.mono _ _ _
      | exact catchpitref06_Scan.mono _ _
      | exact LeO.none _
      | refine LeO.ite ?_ ?_
      | refine LeO.bind ?_ (fun _ => ?_)
end Go.Proofs.YtdkecmjoenfjdaaDoor.Pr
end
section
namespace Go.Proofs.YtdkecmjoenfjdaaDoorH
open Go.RowKit Go.Proofs.YtdkecmjoenfjdaaDoorW.PrintWords Go.Proofs.YtdkecmjoenfjdaaDoorW.PrintLast Go.Proofs.YtdkecmjoenfjdaaDoorW.PrintMore Go.Proofs.YtdkecmjoenfjdaaDoor.Pr
theorem four : ¬((4 : Int) = 0) := by decide
theorem two : ¬((2 : Int) = 0) := by decide
theorem block_Scan_eq (s : ByteArray) (hs : s.size < 4000000000) : block_Scan.f s = some (scanR s) := by
  unfold block_Scan.f
  rw [if_pos hs]
end Go.Proofs.YtdkecmjoenfjdaaDoorH
end
section
namespace Go.Proofs.YtdkecmjoenfjdaaDoorH
open Go.RowKit Go.Proofs.YtdkecmjoenfjdaaDoorW.PrintWords Go.Proofs.YtdkecmjoenfjdaaDoorW.PrintLast Go.Proofs.YtdkecmjoenfjdaaDoorW.PrintMore Go.Proofs.YtdkecmjoenfjdaaDoor.Pr
theorem four2 : ¬((4 : Int) = 2) := by decide
theorem wakes06 : catchpitlaw06_wakes.f = some true := by
  unfold catchpitlaw06_wakes.f
  rw [block_Scan_eq _ (by decide), Option.bind_some, block_Scan_eq _ (by decide), Option.bind_some]
  decide +kernel
theorem scanL_cut : ∀ (l : List UInt8) (i m : Nat) (st : Int), i + m ≤ (scanL i l st).1 → ((scanL i l st).2 = 0 → i + m < (scanL i l st).1) → scanL i (l.take m) st = (i + m, 4)
  | [], i, m, st, h, _ => by
    obtain rfl : m = 0 := by
      have : (scanL i [] st).1 = i := rfl
      omega
    rfl
  | c :: l, i, m, st, h, h0 => by
    cases m with
    | zero => rfl
    | succ m =>
      rw [scanL] at h h0
      rw [List.take_succ_cons, scanL]
      by_cases h1 : (nxt st (c.toNat : Int)).2 = true
      · rw [if_pos h1] at h h0 ⊢
        by_cases h2 : (nxt st (c.toNat : Int)).1 = 5
        · rw [if_pos h2] at h h0
          have := h0 rfl
          simp only at this
          omega
        · rw [if_neg h2] at h h0 ⊢
          rw [scanL_cut l (i + 1) m _ (by omega) (fun e => by have := h0 e; omega)]
          congr 1
          omega
      · rw [if_neg h1] at h
        simp only at h
        omega
theorem scanL_keep : ∀ (l r : List UInt8) (i : Nat) (st : Int), (scanL i l st).2 ≠ 4 → scanL i (l ++ r) st = scanL i l st
  | [], r, i, st, h => absurd rfl h
  | c :: l, r, i, st, h => by
    rw [scanL] at h
    rw [List.cons_append, scanL, scanL]
    by_cases h1 : (nxt st (c.toNat : Int)).2 = true
    · rw [if_pos h1] at h ⊢
      rw [if_pos h1]
      by_cases h2 : (nxt st (c.toNat : Int)).1 = 5
      · rw [if_pos h2, if_pos h2]
      · rw [if_neg h2] at h ⊢
        rw [if_neg h2]
        exact scanL_keep l r (i + 1) _ h
    · rw [if_neg h1, if_neg h1]
theorem scanL_take : ∀ (l : List UInt8) (i m : Nat) (st : Int), (scanL i l st).2 = 2 → (scanL i l st).1 < i + m → scanL i (l.take m) st = scanL i l st
  | [], i, m, st, h, _ => absurd h four2
  | c :: l, i, m, st, h, hm => by
    cases m with
    | zero => have := (scanL_ge (c :: l) i st).1; omega
    | succ m =>
      rw [scanL] at h hm
      rw [List.take_succ_cons, scanL, scanL]
      by_cases h1 : (nxt st (c.toNat : Int)).2 = true
      · rw [if_pos h1] at h hm ⊢
        rw [if_pos h1]
        by_cases h2 : (nxt st (c.toNat : Int)).1 = 5
        · rw [if_pos h2, if_pos h2]
        · rw [if_neg h2] at h hm ⊢
          rw [if_neg h2]
          exact scanL_take l (i + 1) m _ h (by omega)
      · rw [if_neg h1, if_neg h1]
theorem scanL_bad_lt : ∀ (l : List UInt8) (i : Nat) (st : Int), (scanL i l st).2 = 2 → (scanL i l st).1 < i + l.length
  | [], i, st, h => absurd h four2
  | c :: l, i, st, h => by
    rw [scanL] at h ⊢
    by_cases h1 : (nxt st (c.toNat : Int)).2 = true
    · rw [if_pos h1] at h ⊢
      by_cases h2 : (nxt st (c.toNat : Int)).1 = 5
      · rw [if_pos h2] at h
        exact absurd h (show ¬((0 : Int) = 2) by decide)
      · rw [if_neg h2] at h ⊢
        have := scanL_bad_lt l (i + 1) _ h
        rw [List.length_cons]
        omega
    · rw [if_neg h1, List.length_cons]
      show i < _
      omega
theorem scanR_not {s : ByteArray} {p : Nat} {e : Int} (h : scanL 0 s.data.toList 0 = (p, e)) (he : e ≠ 0) : scanR s = ([], (p : Int), e) := scanR_bad (by rw [scanP_whole]; exact h) he
theorem scanR_err (s : ByteArray) : (scanR s).2.2 = (scanL 0 s.data.toList 0).2 ∧ (scanR s).2.1 = (((scanL 0 s.data.toList 0).1 : Nat) : Int) := by
  unfold scanR
  rw [scanP_whole]
  by_cases h : (scanL 0 s.data.toList 0).2 = 0
  · rw [if_pos h]; exact ⟨h.symm, rfl⟩
  · rw [if_neg h]; exact ⟨rfl, rfl⟩
end Go.Proofs.YtdkecmjoenfjdaaDoorH
end
section
namespace Go.Proofs.YtdkecmjoenfjdaaDoor.Pure
open Go.RowKit Go.Proofs.YtdkecmjoenfjdaaDoorH Go.Proofs.YtdkecmjoenfjdaaDoor.Pr Go.Proofs.YtdkecmjoenfjdaaDoorW.PrintWords Go.Proofs.YtdkecmjoenfjdaaDoorW.PrintLast
theorem BlockJoins_j0 (s more : ByteArray) (h1 : s.size ≤ 700) (h2 : more.size ≤ 200) : catchpitlaw06_BlockJoins.j0 1 s more false = some true := by
  obtain ⟨e1, e2⟩ := scanR_err s
  rw [catchpitlaw06_BlockJoins.j0, if_neg (by decide), block_Scan_eq s (by omega), Option.bind_some]
  by_cases h : (scanR s).2.2 = 2
  · have hb : (scanL 0 s.data.toList 0).2 = 2 := by rw [← e1]; exact h
    have hlt := scanL_bad_lt s.data.toList 0 0 hb
    rw [← size_eq_length] at hlt
    have hs : scanL 0 s.data.toList 0 = ((scanL 0 s.data.toList 0).1, 2) := by rw [← hb]
    obtain ⟨p, hp⟩ : ∃ p, (scanL 0 s.data.toList 0).1 = p := ⟨_, rfl⟩
    rw [hp] at hs hlt e2
    have a1 : scanR (s ++ more) = ([], (p : Int), 2) := scanR_not (by rw [data_append, scanL_keep _ _ _ _ (by rw [hb]; decide), hs]) two
    have a2 : scanR (s.extract 0 (p + 1)) = ([], (p : Int), 2) := scanR_not (by rw [extract_to, scanL_take _ _ _ _ hb (by omega), hs]) two
    have a3 : scanR (s.extract 0 p) = ([], (p : Int), 4) := scanR_not (by rw [extract_to, scanL_cut _ _ _ _ (by omega) (by rw [hb]; intro e; exact absurd e two), Nat.zero_add]) four
    have hw : wrap64 ((p : Int) + 1) = ((p + 1 : Nat) : Int) := by unfold wrap64; omega
    have z1 : (s ++ more).size < 4000000000 := by rw [ByteArray.size_append]; omega
    have z2 : (s.extract 0 (p + 1)).size < 4000000000 := by rw [extract0_size _ _ (by omega)]; omega
    have z3 : (s.extract 0 p).size < 4000000000 := by rw [extract0_size _ _ (by omega)]; omega
    rw [if_pos h, if_pos (by omega), block_Scan_eq _ z1, Option.bind_some, a1, e2, hw, if_pos (by omega), if_pos (by omega), Int.toNat_natCast, block_Scan_eq _ z2, Option.bind_some, a2, if_pos (by omega), if_pos (by omega), Int.toNat_natCast, block_Scan_eq _ z3, Option.bind_some, a3, h]
    simp
  · rw [if_neg h]
theorem BlockJoins : catchpitlaw06_BlockJoins.Pure := by
  intro s more hs hm
  refine ⟨1, ?_⟩
  rw [catchpitlaw06_BlockJoins.f, wakes06, Option.bind_some, if_pos rfl]
  by_cases h1 : (s.size : Int) > 700
  · rw [if_pos h1]; rfl
  rw [if_neg h1]
  by_cases h2 : (more.size : Int) > 200
  · rw [decide_eq_true h2]; rfl
  rw [decide_eq_false h2]
  exact BlockJoins_j0 s more (by omega) (by omega)
end Go.Proofs.YtdkecmjoenfjdaaDoor.Pure
end
section
namespace Go.Proofs.YtdkecmjoenfjdaaDoorH
open Go.RowKit Go.ChangeShapes Go.WideShapes Go.ChangeAt
theorem two_of {α : Type} {l : List α} (h : l.length = 2) : ∃ a b, l = [a, b] := by
  match l, h with
  | [a, b], _ => exact ⟨a, b, rfl⟩
theorem three_of {α : Type} {l : List α} (h : l.length = 3) : ∃ a b c, l = [a, b, c] := by
  match l, h with
  | [a, b, c], _ => exact ⟨a, b, c, rfl⟩
theorem six_of {α : Type} {l : List α} (h : l.length = 6) : ∃ a b c d e f, l = [a, b, c, d, e, f] := by
  match l, h with
  | [a, b, c, d, e, f], _ => exact ⟨a, b, c, d, e, f, rfl⟩
theorem cells_of_one {W : World} {cs : List Value} {y : DataW Unit × List MemPlace} {m : Nat} {x0 : Int}
    (hd : DataW.trod (fun _ => ()) Tryd.prog W 0 (fun _ => true) false m 5 cs = some y) (hy : y.1 = .lit (.int .u8 x0)) : cs = [.int .u8 x0] := by
  obtain ⟨n, e1, e2, _⟩ := DataW.trod_int Tryd.underlying5 hd
  rw [e2] at hy
  simp only [DataW.lit.injEq, Lit.int.injEq, true_and] at hy
  rw [e1, hy]
theorem cells_of_pair {W : World} {cs : List Value} {y : DataW Unit × List MemPlace} {m : Nat} {x0 x1 : Int}
    (hd : DataW.trod (fun _ => ()) Tryd.prog W 0 (fun _ => true) false m 91 cs = some y) (hy : y.1 = .agg [.lit (.int .u8 x0), .lit (.int .u8 x1)]) :
    cs = [.int .u8 x0, .int .u8 x1] := by
  have c5 : Tryd.prog.cellsOf 5 = 1 := by kernel_rfl
  have c2 : Tryd.prog.cellsOf 91 = 2 := by kernel_rfl
  obtain ⟨xs, m, _, ex, hn, hl, hel⟩ := DataW.trod_array Tryd.underlying91 hd
  rw [c2] at hn
  obtain ⟨a, b, rfl⟩ := two_of hn
  obtain ⟨u, v, rfl⟩ := two_of hl
  · rw [ex] at hy
    simp only [List.map_cons, List.map_nil, DataW.agg.injEq, List.cons.injEq, and_true] at hy
    have h0 := hel 0 (by omega)
    have h1 := hel 1 (by omega)
    simp only [c5] at h0 h1
    have e0 := cells_of_one (y := u) (by simpa using h0) hy.1
    have e1 := cells_of_one (y := v) (by simpa using h1) hy.2
    simp at e0 e1
    rw [e0, e1]
theorem cells_of_pairs {W : World} {cs : List Value} {y : DataW Unit × List MemPlace} {m : Nat} {x0 x1 x2 x3 x4 x5 : Int}
    (hd : DataW.trod (fun _ => ()) Tryd.prog W 0 (fun _ => true) false m 92 cs = some y)
    (hy : y.1 = .agg [.agg [.lit (.int .u8 x0), .lit (.int .u8 x1)], .agg [.lit (.int .u8 x2), .lit (.int .u8 x3)], .agg [.lit (.int .u8 x4), .lit (.int .u8 x5)]]) :
    cs = [.int .u8 x0, .int .u8 x1, .int .u8 x2, .int .u8 x3, .int .u8 x4, .int .u8 x5] := by
  have c2 : Tryd.prog.cellsOf 91 = 2 := by kernel_rfl
  have c6 : Tryd.prog.cellsOf 92 = 6 := by kernel_rfl
  obtain ⟨xs, m, _, ex, hn, hl, hel⟩ := DataW.trod_array Tryd.underlying92 hd
  rw [c6] at hn
  obtain ⟨a, b, c, d, e, f, rfl⟩ := six_of hn
  obtain ⟨u, v, z, rfl⟩ := three_of hl
  · rw [ex] at hy
    simp only [List.map_cons, List.map_nil, DataW.agg.injEq, List.cons.injEq, and_true] at hy
    have h0 := hel 0 (by omega)
    have h1 := hel 1 (by omega)
    have h2 := hel 2 (by omega)
    simp only [c2] at h0 h1 h2
    have e0 := cells_of_pair (y := u) (by simpa using h0) hy.1
    have e1 := cells_of_pair (y := v) (by simpa using h1) hy.2.1
    have e2 := cells_of_pair (y := z) (by simpa using h2) hy.2.2
    simp at e0 e1 e2
    rw [e0.1, e0.2, e1.1, e1.2, e2.1, e2.2]
theorem tabOk_of_laid {W : World} {L : List (String × DataW Unit)} (h : laidMetH Tryd.prog L W) (hp : (L.all fun x => x.2.handleName?.isNone) = true)
    (hf : L.filter (fun x => x.1 == "catchpit/octet.ends") = [("catchpit/octet.ends", Go.Proofs.YtdkecmjoenfjdaaDoor.Rows.laid_catchpit_octet_ends)]) (hs : W.ShapedOpen Tryd.prog) : TabOk W := by
  rw [MakeChecks.laidMetH_plain _ _ _ hp] at h
  have h2 := laidMet.filter (fun x => x.1 == "catchpit/octet.ends") h
  rw [hf] at h2
  obtain ⟨ps, ⟨g, t, cs, fuel, p, q, hg, ht, hv, hd, _, _⟩, _, _⟩ := h2
  obtain rfl := Option.some.inj ((show Tryd.prog.globalNamed "catchpit/octet.ends" = some 0 by kernel_rfl).symm.trans hg)
  obtain rfl := Option.some.inj ((show (Tryd.prog.globals[0]?).map (·.type) = some 92 by kernel_rfl).symm.trans ht)
  have e := cells_of_pairs hd rfl
  have hc := World.var?_cell hg hv
  have at_ : ∀ j, cs[j]? = cs.toList[j]? := fun j => (Array.getElem?_toList ..).symm
  rw [e] at at_
  exact ⟨(hc 0).trans (at_ 0), (hc 1).trans (at_ 1), (hc 2).trans (at_ 2), (hc 3).trans (at_ 3), (hc 4).trans (at_ 4), (hc 5).trans (at_ 5), MxOk.of_shaped hs⟩
end Go.Proofs.YtdkecmjoenfjdaaDoorH
end
section
namespace Go.Proofs.YtdkecmjoenfjdaaDoorH
open Go.RowKit Go.ChangeShapes Go.WideShapes Go.ChangeAt Go.Proofs.YtdkecmjoenfjdaaDoorW.PrintWords
def Light {H : Type} (P : Program) (t : TypeId) (d : DataW H) : Prop := ∀ x ∈ DataW.weights P t d, x ≤ reachBytes
structure Opens (P : Program) {α : Type} (d : Kd α) (t : TypeId) (G : α → Prop) : Prop where
  cells : P.cellsOf t = d.sz
  open_ : ∀ {H : Type} {enc : TypeId × Value → H} {W : World} {fuel : Nat} {cs : List Value} {x : DataW H × List MemPlace},
    DataW.trod enc P W 0 (fun _ => true) true fuel t cs = some x → Light P t x.1 → ∃ y, d.K W y cs ∧ G y
theorem Opens.int {P : Program} {t : TypeId} {k : IntKind} (hu : P.underlying t = some (.int k)) (hc : P.cellsOf t = 1) : Opens P (Kd.int k) t (fun n => (Lit.int k n).wf = true) := by
  refine ⟨hc, fun h _ => ?_⟩
  obtain ⟨n, e1, e2, wf⟩ := DataW.trod_int hu h
  exact ⟨n, e1, wf⟩
theorem Opens.bool {P : Program} {t : TypeId} (hu : P.underlying t = some .bool) (hc : P.cellsOf t = 1) : Opens P Kd.bool t (fun _ => True) := by
  refine ⟨hc, fun {_ _ _ fuel cs _} h _ => ?_⟩
  cases fuel with
  | zero => simp [DataW.trod] at h
  | succ m =>
    unfold DataW.trod at h
    rw [hu] at h
    match cs, h with
    | [.bool b], _ => exact ⟨b, rfl, trivial⟩
theorem Opens.string {P : Program} {t : TypeId} (hu : P.underlying t = some .string) (hc : P.cellsOf t = 1) : Opens P Kd.string t (fun s => s.size ≤ 140737488351232) := by
  refine ⟨hc, fun h hl => ?_⟩
  obtain ⟨s, e1, e2, _⟩ := DataW.trod_string hu h
  refine ⟨s, e1, ?_⟩
  subst e2
  have := hl s.data.toList.length (by simp [DataW.weights])
  rw [data_length] at this
  exact this
theorem weightsAll_mem {H : Type} (P : Program) (e : TypeId) : ∀ (l : List (DataW H)) (d : DataW H), d ∈ l → ∀ x ∈ DataW.weights P e d, x ∈ DataW.weightsAll P e l
  | [], d, h, _, _ => by cases h
  | a :: l, d, h, x, hx => by
    rw [DataW.weightsAll]
    rcases List.mem_cons.1 h with rfl | h
    · exact List.mem_append_left _ hx
    · exact List.mem_append_right _ (weightsAll_mem P e l d h x hx)
theorem list_of {α : Type} {p : Nat → α → Prop} : ∀ n : Nat, (∀ i, i < n → ∃ y, p i y) → ∃ l : List α, l.length = n ∧ ∀ i y, l[i]? = some y → p i y
  | 0, _ => ⟨[], rfl, fun i y h => by simp at h⟩
  | n + 1, h => by
    obtain ⟨l, hl, hp⟩ := list_of n (fun i hi => h i (by omega))
    obtain ⟨y, hy⟩ := h n (by omega)
    refine ⟨l ++ [y], by simp [hl], fun i z hz => ?_⟩
    rcases Nat.lt_or_ge i n with hi | hi
    · rw [List.getElem?_append_left (by omega)] at hz
      exact hp i z hz
    · rw [List.getElem?_append_right (by omega), hl] at hz
      rcases Nat.eq_zero_or_pos (i - n) with h0 | h0
      · rw [h0] at hz
        obtain rfl : i = n := by omega
        obtain rfl : y = z := by simpa using hz
        exact hy
      · rw [List.getElem?_eq_none (by simp; omega)] at hz
        cases hz
theorem add_add (a : Addr) (i j : Nat) : (a.add i).add j = a.add (i + j) := by
  unfold Addr.add
  by_cases h1 : i = 0
  · subst h1; simp
  · by_cases h2 : j = 0
    · subst h2; simp [h1]
    · simp [h1, h2, Nat.add_assoc]
theorem cells_at {W : World} {base : Nat} {a : Addr} {n : Nat} {cs : List Value} (h : W.cells? base a n = some cs) : cs.length = n ∧ ∀ (i : Nat) u, cs[i]? = some u → W.cell? (a.add i) = some u := by
  obtain ⟨_, hn, hc⟩ := World.cells?_some h
  refine ⟨hn, fun i u hu => ?_⟩
  have hi : i < n := by
    rcases Nat.lt_or_ge i n with hi | hi
    · exact hi
    · rw [List.getElem?_eq_none (by omega)] at hu; cases hu
  rw [hc i hi, hu]
theorem Opens.slice {P : Program} {α : Type} {d : Kd α} {t e : TypeId} {G : α → Prop} (h : Opens P d e G) (hu : P.underlying t = some (.slice e)) (hc : P.cellsOf t = 1) {B : Nat} (hB : P.bytesOf e = B) :
    Opens P (Kd.slice e d) t (fun l => l.length * B ≤ 140737488351232 ∧ ∀ y ∈ l, G y) := by
  refine ⟨hc, fun {H enc W fuel cs x} hx hl => ?_⟩
  rcases Deep.open_slice hu hx with ⟨rfl, rfl⟩ | ⟨a, len, cap, m, n, D, Pl, rfl, _, hle, hm, hmm, rfl, hel⟩
  · exact ⟨[], ⟨none, 0, rfl, Nat.le_refl _, rfl, by simp, fun h => by simp at h⟩, by simp, fun y hy => by cases hy⟩
  · simp only [if_true] at hmm
    subst hmm
    have hw : (len + (m - len)) * B ≤ 140737488351232 := by
      have := hl ((len + (m - len)) * B) (by
        unfold DataW.weights
        simp only [hu, hB]
        simp)
      exact this
    have hget : ∀ i, i < len → ∃ y, (∃ c, c.length = d.sz ∧ d.K W y c ∧ ∀ j u, c[j]? = some u → W.cell? (a.add (i * d.sz + j)) = some u) ∧ G y := by
      intro i hi
      obtain ⟨cs', h1, h2⟩ := hel i (by omega)
      obtain ⟨y, hy, hg⟩ := h.open_ h2 (fun x hx => hl x (by
        unfold DataW.weights
        simp only [hu]
        refine List.mem_cons_of_mem _ (List.mem_append_left _ (weightsAll_mem P e _ (D i) ?_ x hx))
        exact List.mem_map.2 ⟨i, List.mem_range.2 hi, rfl⟩))
      obtain ⟨hn, hcell⟩ := cells_at h1
      refine ⟨y, ⟨cs', by rw [hn, h.cells], hy, fun j u hj => ?_⟩, hg⟩
      have := hcell j u hj
      rw [add_add, h.cells] at this
      exact this
    obtain ⟨l, hll, hat⟩ := list_of len hget
    refine ⟨l, ⟨some a, m, by rw [hll], by omega, rfl, by rw [hll]; unfold maxLen at hm; omega, fun _ => ⟨a, rfl, fun j p hj => (hat j p hj).1⟩⟩, ?_, fun y hy => ?_⟩
    · rw [hll]
      exact Nat.le_trans (Nat.mul_le_mul_right _ (by omega)) hw
    · obtain ⟨i, hi, rfl⟩ := List.mem_iff_getElem.1 hy
      exact (hat i _ (List.getElem?_eq_getElem hi)).2
theorem Opens.iso {P : Program} {α β : Type} {d : Kd α} {t : TypeId} {G : α → Prop} (h : Opens P d t G) (f : β → α) (g : α → β) (hfg : ∀ y, f (g y) = y) : Opens P (Kd.iso d f) t (fun x => G (f x)) := by
  refine ⟨h.cells, fun {H enc W fuel cs x} hx hl => ?_⟩
  obtain ⟨y, hk, hg⟩ := h.open_ hx hl
  exact ⟨g y, show d.K W (f (g y)) cs by rw [hfg]; exact hk, by rw [hfg]; exact hg⟩
end Go.Proofs.YtdkecmjoenfjdaaDoorH
end
section
namespace Go.Proofs.YtdkecmjoenfjdaaDoorH
open Go
variable {H : Type} {enc : TypeId × Value → H}
theorem returns_and_shaped {a : Assume} {C : Checked} {os : Os} {f : FuncId} {fn : Func} {s : ChangeSpec} {conds : List PathCond} {apart fresh handsOn again : Bool} {X : World → Array Value → Prop}
    (hX : ∀ (w w' : World) (args : Array Value), w.heap = w'.heap → X w args → X w' args)
    (own : ownKnob C.prog.godebug = none) (started : os.Started) (noInit : C.prog.inits.idxOf? f = none) (hfn : C.prog.funcs[f]? = some fn)
    (witness : ∃ (w : World) (tape : Tape) (i : Input), w.os = os ∧ (w.forCall tape i).Shaped C.prog ∧ i.vars = [] ∧ Input.okWide C.prog (w.forCall tape i) .any w.heap.size f i ∧
      ((s.pre enc C.prog fn conds apart (w.forCall tape i).memory i.args ∧ X (w.forCall tape i).memory i.args) ∧ sizedMet enc C.prog fn (OpenSpec.ofChange s) apart (w.forCall tape i).memory i.args) ∧ a.holds C.prog (lone (Frame.enter C.prog f i.args .normal) [] (w.forCall tape i)))
    (contract : ∀ (W : World) (base : Nat) (args : Array Value) (ds gs : List (DataW H)) (before : List MemPlace),
      (∀ (j : Nat) t v, fn.params[j]? = some t → args[j]? = some v → Value.okWide C.prog W .any base t v) →
      DataW.Whole enc C.prog fn.params.toList s.vars apart W args.toList ds gs before →
      conds.all (PathCond.test C.prog ⟨fn.params.toList, ds, s.plain.varTypes C.prog, gs⟩) = true →
      (DataW.weightsEach C.prog (fn.params.toList ++ s.plain.varTypes C.prog) (ds ++ gs)).all (· ≤ reachBytes) = true → X W args →
      W.ShapedOpen C.prog →
      a.holds C.prog (lone (Frame.enter C.prog f args .normal) [] W) →
      Calls C.prog f args W fun e W' => ∃ v, e = .returned v ∧ s.post enc C.prog fn apart fresh handsOn again W args v W') :
    ReturnsInHanded a C os f .any (fun w args => (s.pre enc C.prog fn conds apart w args ∧ X w args) ∧ sizedMet enc C.prog fn (OpenSpec.ofChange s) apart w args) (s.post enc C.prog fn apart fresh handsOn again) := by
  refine returnsInHanded_of_calls own started noInit witness ?_
  intro w tape i _ hsh _ hok hpre hholds
  obtain ⟨_, _, _, fn', hfn', _, _, _, _, hval⟩ := hok
  have e : fn' = fn := Option.some.inj (hfn'.symm.trans hfn)
  subst e
  obtain ⟨⟨⟨ds, gs, before, hw, hc⟩, hx⟩, hz⟩ := hpre
  have hw' := DataW.Whole.of_heap (w' := w.forCall tape i) (by rfl) hw
  refine (contract (w.forCall tape i) w.heap.size i.args ds gs before hval hw' hc (hz.weights hw) (hX _ _ _ (by rfl) hx) hsh hholds).mono fun e W' ⟨v, he, hp⟩ => ?_
  subst he
  exact ChangeSpec.post_blind hp
end Go.Proofs.YtdkecmjoenfjdaaDoorH
end
