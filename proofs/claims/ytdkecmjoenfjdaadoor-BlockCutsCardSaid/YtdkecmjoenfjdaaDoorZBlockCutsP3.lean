import Derived.Test.YtdkecmjoenfjdaaDoorZBlockCutsP1
import Derived.Test.YtdkecmjoenfjdaaDoorZBlockCutsP2
import Derived.RangeFuncFrom
import Derived.RangeFuncWrites
import Derived.RangeFuncBox
import Derived.Maps.AppendAt
import Derived.Shelf.Strings.Builder1
import Derived.Laws.EntriesVeiled
section
namespace Go.Proofs.YtdkecmjoenfjdaaDoor.Pr
open Go.RowKit Go.Proofs.YtdkecmjoenfjdaaDoorH Go.Proofs.YtdkecmjoenfjdaaDoorW.PrintWords Go.Proofs.YtdkecmjoenfjdaaDoorW.PrintLast Go.Proofs.YtdkecmjoenfjdaaDoorW.PrintMore
attribute [local go_sem] max2_int min2_int max_two min_two max_three min_three max_four min_four   -- for this text's walks alone
set_option linter.unusedVariables false
set_option linter.unusedSimpArgs false
attribute [local go_sem high] eqA24
def catchpitref05_Get.l0 : Nat → List (S24) → ByteArray → List ByteArray → Int → Option (List ByteArray)
  | 0, _, _, _, _ => none
  | k + 1, x0, x1, x5, x6 => if x6 < (x0.length : Int) then (if 0 ≤ x6 then ((catchpitref05_Is.f k ((rd_T24 x0 x6).f0) ((rd_T24 x0 x6).f1) x1).bind fun t184 => (if t184 = true then (if x5.length < 8796093022208 then (catchpitref05_Get.l0 k x0 x1 (x5 ++ [(rd_T24 x0 x6).f1]) (wrap64 (x6 + 1))) else (none)) else (catchpitref05_Get.l0 k x0 x1 x5 (wrap64 (x6 + 1))))) else (none)) else (some x5)
def catchpitref05_Get.f (k : Nat) (l0 : List (S24)) (a1 : ByteArray) : Option (List ByteArray) := catchpitref05_Get.l0 k l0 a1 ([] : List ByteArray) 0
theorem catchpitref05_Get.mono_l : ∀ k, (∀ y0 y1 y2 y3, LeO (catchpitref05_Get.l0 k y0 y1 y2 y3) (catchpitref05_Get.l0 (k + 1) y0 y1 y2 y3))
  | 0 => fun _ _ _ _ r h => by simp [catchpitref05_Get.l0] at h
  | k + 1 => by
    have ih0 := catchpitref05_Get.mono_l k
    · intro y0 y1 y2 y3
      unfold catchpitref05_Get.l0
      repeat' first
      | (with_reducible exact ih0 _ _ _ _)
      | (with_reducible exact catchpitref05_Is.mono _ _ _ _)
      | (with_reducible exact LeO.refl _)
      | (with_reducible exact LeO.none _)
      | (with_reducible refine LeO.ite ?_ ?_)
      | (with_reducible refine LeO.bind ?_ (fun _ => ?_))
      | exact ih0 _ _ _ _
      | exact catchpitref05_Is.mono _ _ _ _
      | exact LeO.none _
      | refine LeO.ite ?_ ?_
      | refine LeO.bind ?_ (fun _ => ?_)
theorem catchpitref05_Get.mono : ∀ a0 a1 k, LeO (catchpitref05_Get.f k a0 a1) (catchpitref05_Get.f (k + 1) a0 a1) := by
  intro a0 a1 k
  have ih0 := catchpitref05_Get.mono_l k
  unfold catchpitref05_Get.f
  repeat' first
      | (with_reducible exact ih0 _ _ _ _)
      | (with_reducible exact catchpitref05_Is.mono _ _ _ _)
      | (with_reducible exact LeO.refl _)
      | (with_reducible exact LeO.none _)
      | (with_reducible refine LeO.ite ?_ ?_)
      | (with_reducible refine LeO.bind ?_ (fun _ => ?_))
      | exact ih0 _ _ _ _
      | exact catchpitref05_Is.mono _ _ _ _
      | exact LeO.none _
      | refine LeO.ite ?_ ?_
      | refine LeO.bind ?_ (fun _ => ?_)
def catchpitref05_Fields.l0 : Nat → List (S24) → List (S24) → Int → Option (Bool)
  | 0, _, _, _ => none
  | k + 1, x0, x1, x5 => if x5 < (x0.length : Int) then (if 0 ≤ x5 then (if x5 < (x1.length : Int) then (if (!((((rd_T24 x0 x5).f0).toList) == (((rd_T24 x1 x5).f0).toList)) || (!((((rd_T24 x0 x5).f1).toList) == (((rd_T24 x1 x5).f1).toList)))) = true then (some false) else (catchpitref05_Fields.l0 k x0 x1 (wrap64 (x5 + 1)))) else (none)) else (none)) else (some true)
def catchpitref05_Fields.f (k : Nat) (l0 : List (S24)) (l1 : List (S24)) : Option (Bool) := if (l0.length : Int) = (l1.length : Int) then (catchpitref05_Fields.l0 k l0 l1 0) else (some false)
theorem catchpitref05_Fields.mono_l : ∀ k, (∀ y0 y1 y2, LeO (catchpitref05_Fields.l0 k y0 y1 y2) (catchpitref05_Fields.l0 (k + 1) y0 y1 y2))
  | 0 => fun _ _ _ r h => by simp [catchpitref05_Fields.l0] at h
  | k + 1 => by
    have ih0 := catchpitref05_Fields.mono_l k
    · intro y0 y1 y2
      unfold catchpitref05_Fields.l0
      repeat' first
      | (with_reducible exact ih0 _ _ _)
      | (with_reducible exact LeO.refl _)
      | (with_reducible exact LeO.none _)
      | (with_reducible refine LeO.ite ?_ ?_)
      | (with_reducible refine LeO.bind ?_ (fun _ => ?_))
      | exact ih0 _ _ _
      | exact LeO.none _
      | refine LeO.ite ?_ ?_
      | refine LeO.bind ?_ (fun _ => ?_)
theorem catchpitref05_Fields.mono : ∀ a0 a1 k, LeO (catchpitref05_Fields.f k a0 a1) (catchpitref05_Fields.f (k + 1) a0 a1) := by
  intro a0 a1 k
  have ih0 := catchpitref05_Fields.mono_l k
  unfold catchpitref05_Fields.f
  repeat' first
      | (with_reducible exact ih0 _ _ _)
      | (with_reducible exact LeO.refl _)
      | (with_reducible exact LeO.none _)
      | (with_reducible refine LeO.ite ?_ ?_)
      | (with_reducible refine LeO.bind ?_ (fun _ => ?_))
      | exact ih0 _ _ _
      | exact LeO.none _
      | refine LeO.ite ?_ ?_
      | refine LeO.bind ?_ (fun _ => ?_)
end Go.Proofs.YtdkecmjoenfjdaaDoor.Pr
end
section
namespace Go.Proofs.YtdkecmjoenfjdaaDoor.Pr
open Go.RowKit Go.Proofs.YtdkecmjoenfjdaaDoorH Go.Proofs.YtdkecmjoenfjdaaDoorW.PrintWords Go.Proofs.YtdkecmjoenfjdaaDoorW.PrintLast Go.Proofs.YtdkecmjoenfjdaaDoorW.PrintMore
attribute [local go_sem] max2_int min2_int max_two min_two max_three min_three max_four min_four   -- for this text's walks alone
set_option linter.unusedVariables false
set_option linter.unusedSimpArgs false
mutual
def catchpitref05_Without.l0 : Nat → List (S24) → List ByteArray → List (S24) → Int → Option ((List (S24)))
  | 0, _, _, _, _ => none
  | k + 1, x0, x1, x5, x6 => if x6 < (x0.length : Int) then (if 0 ≤ x6 then (if x5.length < 4398046511104 then (catchpitref05_Without.l1 k x0 x1 (x5 ++ [(⟨(rd_T24 x0 x6).f0, (rd_T24 x0 x6).f1⟩ : S24)]) x6 0) else (none)) else (none)) else (some x5)
def catchpitref05_Without.l1 : Nat → List (S24) → List ByteArray → List (S24) → Int → Int → Option ((List (S24)))
  | 0, _, _, _, _, _ => none
  | k + 1, x0, x1, x5, x6, x7 => if x7 < (x1.length : Int) then (if 0 ≤ x6 then (if x6 < (x0.length : Int) then (if 0 ≤ x7 then ((catchpitref05_Is.f k ((rd_T24 x0 x6).f0) ((rd_T24 x0 x6).f1) (rdOf ByteArray.empty x1 x7)).bind fun t197 => (if t197 = true then (if 0 ≤ (wrap64 ((x5.length : Int) - 1)) then (if (wrap64 ((x5.length : Int) - 1)) ≤ (x5.length : Int) then (catchpitref05_Without.l0 k x0 x1 (x5.take ((wrap64 ((x5.length : Int) - 1)) : Int).toNat) (wrap64 (x6 + 1))) else (none)) else (none)) else (catchpitref05_Without.l1 k x0 x1 x5 x6 (wrap64 (x7 + 1))))) else (none)) else (none)) else (none)) else (catchpitref05_Without.l0 k x0 x1 x5 (wrap64 (x6 + 1)))
end
def catchpitref05_Without.f (k : Nat) (l0 : List (S24)) (l1 : List ByteArray) : Option ((List (S24))) := catchpitref05_Without.l0 k l0 l1 ([] : List (S24)) 0
theorem catchpitref05_Without.mono_l : ∀ k, (∀ y0 y1 y2 y3, LeO (catchpitref05_Without.l0 k y0 y1 y2 y3) (catchpitref05_Without.l0 (k + 1) y0 y1 y2 y3)) ∧ (∀ y0 y1 y2 y3 y4, LeO (catchpitref05_Without.l1 k y0 y1 y2 y3 y4) (catchpitref05_Without.l1 (k + 1) y0 y1 y2 y3 y4))
  | 0 => ⟨fun _ _ _ _ r h => by simp [catchpitref05_Without.l0] at h, fun _ _ _ _ _ r h => by simp [catchpitref05_Without.l1] at h⟩
  | k + 1 => by
    obtain ⟨ih0, ih1⟩ := catchpitref05_Without.mono_l k
    refine ⟨?_, ?_⟩
    · intro y0 y1 y2 y3
      unfold catchpitref05_Without.l0
      repeat' first
      | (with_reducible exact ih0 _ _ _ _)
      | (with_reducible exact ih1 _ _ _ _ _)
      | (with_reducible exact catchpitref05_Is.mono _ _ _ _)
      | (with_reducible exact LeO.refl _)
      | (with_reducible exact LeO.none _)
      | (with_reducible refine LeO.ite ?_ ?_)
      | (with_reducible refine LeO.bind ?_ (fun _ => ?_))
      | exact ih0 _ _ _ _
      | exact ih1 _ _ _ _ _
      | exact catchpitref05_Is.mono _ _ _ _
      | exact LeO.none _
      | refine LeO.ite ?_ ?_
      | refine LeO.bind ?_ (fun _ => ?_)
    · intro y0 y1 y2 y3 y4
      unfold catchpitref05_Without.l1
      repeat' first
      | (with_reducible exact ih0 _ _ _ _)
      | (with_reducible exact ih1 _ _ _ _ _)
      | (with_reducible exact catchpitref05_Is.mono _ _ _ _)
      | (with_reducible exact LeO.refl _)
      | (with_reducible exact LeO.none _)
      | (with_reducible refine LeO.ite ?_ ?_)
      | (with_reducible refine LeO.bind ?_ (fun _ => ?_))
      | exact ih0 _ _ _ _
      | exact ih1 _ _ _ _ _
      | exact catchpitref05_Is.mono _ _ _ _
      | exact LeO.none _
      | refine LeO.ite ?_ ?_
      | refine LeO.bind ?_ (fun _ => ?_)
theorem catchpitref05_Without.mono : ∀ a0 a1 k, LeO (catchpitref05_Without.f k a0 a1) (catchpitref05_Without.f (k + 1) a0 a1) := by
  intro a0 a1 k
  obtain ⟨ih0, ih1⟩ := catchpitref05_Without.mono_l k
  unfold catchpitref05_Without.f
  repeat' first
      | (with_reducible exact ih0 _ _ _ _)
      | (with_reducible exact ih1 _ _ _ _ _)
      | (with_reducible exact catchpitref05_Is.mono _ _ _ _)
      | (with_reducible exact LeO.refl _)
      | (with_reducible exact LeO.none _)
      | (with_reducible refine LeO.ite ?_ ?_)
      | (with_reducible refine LeO.bind ?_ (fun _ => ?_))
      | exact ih0 _ _ _ _
      | exact ih1 _ _ _ _ _
      | exact catchpitref05_Is.mono _ _ _ _
      | exact LeO.none _
      | refine LeO.ite ?_ ?_
      | refine LeO.bind ?_ (fun _ => ?_)
end Go.Proofs.YtdkecmjoenfjdaaDoor.Pr
end
section
namespace Go.Proofs.YtdkecmjoenfjdaaDoorH
open Go.RowKit Go.Proofs.YtdkecmjoenfjdaaDoorW.PrintWords Go.Proofs.YtdkecmjoenfjdaaDoorW.PrintLast Go.Proofs.YtdkecmjoenfjdaaDoorW.PrintMore Go.Proofs.YtdkecmjoenfjdaaDoor.Pr
abbrev Fld := S24
def Small1 (l : List Fld) : Prop := ∀ y ∈ l, y.f0.size ≤ 140737488351232 ∧ y.f1.size ≤ 140737488351232
def sumF (l : List Fld) : Nat := (l.map fun x => x.f0.size + x.f1.size + 1).sum
theorem sumF_cons (x : Fld) (l : List Fld) : sumF (x :: l) = (x.f0.size + x.f1.size + 1) + sumF l := by simp [sumF]
theorem sumF_length : ∀ l : List Fld, l.length ≤ sumF l
  | [] => Nat.le_refl _
  | x :: l => by
    have := sumF_length l
    rw [sumF_cons, List.length_cons]
    omega
theorem sumF_at : ∀ (l : List Fld) (x : Fld), x ∈ l → x.f0.size + x.f1.size + 1 ≤ sumF l
  | y :: l, x, h => by
    rw [sumF_cons]
    rcases List.mem_cons.1 h with rfl | h
    · omega
    · have := sumF_at l x h
      omega
theorem drop_cons {α : Type} (l : List α) (d : α) (i : Nat) (h : i < l.length) : l.drop i = l.getD i d :: l.drop (i + 1) := by
  rw [List.drop_eq_getElem_cons h]
  simp [List.getD_eq_getElem?_getD, h]
theorem rd_nat (l : List Fld) (i : Nat) : rd_T24 l (i : Int) = l.getD i z24 := by
  unfold rd_T24
  rw [Int.toNat_natCast]
theorem wrapN (a b : Nat) (h : a + b < 4611686018427387904) : wrap64 ((a : Int) + (b : Int)) = ((a + b : Nat) : Int) := by unfold wrap64; omega
theorem wrapS (a : Nat) (h : a < 4611686018427387904) : wrap64 ((a : Int) + 1) = ((a + 1 : Nat) : Int) := by unfold wrap64; omega
def bigN : Nat := 600000000000000
theorem ref05_Great_l0 (l : List Fld) (hl : Small1 l) (hn : l.length ≤ 140737488351232) (d : Nat) : ∀ (i n k : Nat), i ≤ l.length → l.length - i = d → d < k → n ≤ bigN →
    catchpitref05_Great.l0 k l (n : Int) (i : Int) = some (decide (2000 < n + sumF (l.drop i))) := by
  induction d with
  | zero =>
    intro i n k h1 h2 h3 h4
    obtain ⟨k, rfl⟩ : ∃ m, k = m + 1 := ⟨k - 1, by omega⟩
    rw [catchpitref05_Great.l0, if_neg (by omega), List.drop_eq_nil_of_le (by omega)]
    congr 1
    rw [decide_eq_decide]
    show _ ↔ 2000 < n + 0
    omega
  | succ d ih =>
    intro i n k h1 h2 h3 h4
    obtain ⟨k, rfl⟩ : ∃ m, k = m + 1 := ⟨k - 1, by omega⟩
    have hi : i < l.length := by omega
    rw [catchpitref05_Great.l0, if_pos (by omega), drop_cons l z24 i hi, sumF_cons, rd_nat]
    have hx := hl _ (mem_getD l z24 i hi)
    generalize l.getD i z24 = x at *
    by_cases h : n ≤ 2000
    · rw [if_pos (by omega), if_pos (by omega)]
      have a1 : i + 1 ≤ l.length := hi
      have a2 : l.length - (i + 1) = d := by omega
      have a3 : d < k := by omega
      have a4 : n + x.f0.size + x.f1.size + 1 ≤ bigN := by unfold bigN at *; omega
      have b1 : n + x.f0.size < 4611686018427387904 := by omega
      have b2 : n + x.f0.size + x.f1.size < 4611686018427387904 := by omega
      have b4 : i < 4611686018427387904 := by omega
      have e1 := wrapN n x.f0.size b1
      have e2 := wrapN (n + x.f0.size) x.f1.size b2
      have e3 := wrapS (n + x.f0.size + x.f1.size) b2
      have e4 := wrapS i b4
      have hh := ih (i + 1) (n + x.f0.size + x.f1.size + 1) k a1 a2 a3 a4
      rw [e1, e2, e3, e4, hh]
      clear e1 e2 e3 e4 hh ih
      congr 1
      rw [decide_eq_decide]
      omega
    · rw [if_neg (by omega)]
      congr 1
      rw [decide_eq_decide]
      omega
theorem ref05_Great (l : List Fld) (hl : Small1 l) (hn : l.length ≤ 140737488351232) : Ev (fun k => catchpitref05_Great.f k l) (decide (2000 < sumF l)) := by
  refine ⟨l.length + 1, fun k hk => ?_⟩
  have := ref05_Great_l0 l hl hn l.length 0 0 k (Nat.zero_le _) rfl (by omega) (Nat.zero_le _)
  rw [Nat.zero_add, List.drop_zero] at this
  exact this
theorem ev_all {α : Type} (F : Nat → α → Option Bool) (p : α → Bool) : ∀ l : List α, (∀ x ∈ l, Ev (fun k => F k x) (p x)) → ∃ K, ∀ k, K ≤ k → ∀ x ∈ l, F k x = some (p x)
  | [], _ => ⟨0, fun _ _ x hx => by cases hx⟩
  | a :: l, h => by
    obtain ⟨K1, h1⟩ := h a (List.mem_cons_self ..)
    obtain ⟨K2, h2⟩ := ev_all F p l (fun x hx => h x (List.mem_cons_of_mem _ hx))
    refine ⟨K1 + K2, fun k hk x hx => ?_⟩
    rcases List.mem_cons.1 hx with rfl | hx
    · exact h1 k (by omega)
    · exact h2 k (by omega) x hx
end Go.Proofs.YtdkecmjoenfjdaaDoorH
end
section
namespace Go.Proofs.YtdkecmjoenfjdaaDoor.Pr
open Go.RowKit Go.Proofs.YtdkecmjoenfjdaaDoorH Go.Proofs.YtdkecmjoenfjdaaDoorW.PrintWords Go.Proofs.YtdkecmjoenfjdaaDoorW.PrintLast Go.Proofs.YtdkecmjoenfjdaaDoorW.PrintMore
attribute [local go_sem] max2_int min2_int max_two min_two max_three min_three max_four min_four   -- for this text's walks alone
set_option linter.unusedVariables false
set_option linter.unusedSimpArgs false
def catchpitlaw05_FieldJoins.j0 : Nat → List (S24) → List (S24) → ByteArray → Bool → Option (Bool)
  | 0, _, _, _, _ => none
  | k + 1, x0, x1, x2, x20 => if x20 = true then (some true) else ((some (([] : List (S24)) : List (S24))).bind fun y231 => (if y231.length + x0.length < 4398046511104 then ((some (y231 ++ x0 : List (S24))).bind fun y234 => (if y234.length + x1.length < 4398046511104 then ((some (y234 ++ x1 : List (S24))).bind fun y237 => ((field_Get.f y237 x2).bind fun t240 => ((some (([] : List ByteArray) : List ByteArray)).bind fun y243 => ((field_Get.f x0 x2).bind fun t246 => (if y243.length + t246.length < 8796093022208 then ((some (y243 ++ t246 : List ByteArray)).bind fun y249 => ((field_Get.f x1 x2).bind fun t252 => (if y249.length + t252.length < 8796093022208 then ((catchpitref05_Texts.f k t240 (y249 ++ t252)).bind fun t258 => (if t258 = true then ((field_Without.f y237 (([x2] : List ByteArray))).bind fun t262 => ((some (([] : List (S24)) : List (S24))).bind fun y265 => ((field_Without.f x0 (([x2] : List ByteArray))).bind fun t271 => (if y265.length + t271.length < 4398046511104 then ((some (y265 ++ t271 : List (S24))).bind fun y274 => ((field_Without.f x1 (([x2] : List ByteArray))).bind fun t280 => (if y274.length + t280.length < 4398046511104 then ((catchpitref05_Fields.f k t262 (y274 ++ t280)).bind fun t286 => (some t286)) else (none)))) else (none))))) else (some false))) else (none)))) else (none)))))) else (none))) else (none)))
def catchpitlaw05_FieldJoins.f (k : Nat) (l0 : List (S24)) (l1 : List (S24)) (a2 : ByteArray) : Option (Bool) := (catchpitlaw05_wakes.f).bind fun t228 => (if t228 = true then ((catchpitref05_Great.f k l0).bind fun t229 => (if t229 = true then (catchpitlaw05_FieldJoins.j0 k l0 l1 a2 true) else ((catchpitref05_Great.f k l1).bind fun t230 => (if t230 = true then (catchpitlaw05_FieldJoins.j0 k l0 l1 a2 true) else (catchpitlaw05_FieldJoins.j0 k l0 l1 a2 (decide ((a2.size : Int) > 300))))))) else (some false))
theorem catchpitlaw05_FieldJoins.mono_l : ∀ k, (∀ y0 y1 y2 y3, LeO (catchpitlaw05_FieldJoins.j0 k y0 y1 y2 y3) (catchpitlaw05_FieldJoins.j0 (k + 1) y0 y1 y2 y3))
  | 0 => fun _ _ _ _ r h => by simp [catchpitlaw05_FieldJoins.j0] at h
  | k + 1 => by
    have ih0 := catchpitlaw05_FieldJoins.mono_l k
    · intro y0 y1 y2 y3
      unfold catchpitlaw05_FieldJoins.j0
      repeat' first
      | (with_reducible exact ih0 _ _ _ _)
      | (with_reducible exact catchpitref05_Fields.mono _ _ _)
      | (with_reducible exact catchpitref05_Great.mono _ _)
      | (with_reducible exact catchpitref05_Texts.mono _ _ _)
      | (with_reducible exact LeO.refl _)
      | (with_reducible exact LeO.none _)
      | (with_reducible refine LeO.ite ?_ ?_)
      | (with_reducible refine LeO.bind ?_ (fun _ => ?_))
      | exact ih0 _ _ _ _
      | exact catchpitref05_Fields.mono _ _ _
      | exact catchpitref05_Great.mono _ _
      | exact catchpitref05_Texts.mono _ _ _
      | exact LeO.none _
      | refine LeO.ite ?_ ?_
      | refine LeO.bind ?_ (fun _ => ?_)
theorem catchpitlaw05_FieldJoins.mono : ∀ a0 a1 a2 k, LeO (catchpitlaw05_FieldJoins.f k a0 a1 a2) (catchpitlaw05_FieldJoins.f (k + 1) a0 a1 a2) := by
  intro a0 a1 a2 k
  have ih0 := catchpitlaw05_FieldJoins.mono_l k
  unfold catchpitlaw05_FieldJoins.f
  repeat' first
      | (with_reducible exact ih0 _ _ _ _)
      | (with_reducible exact catchpitref05_Fields.mono _ _ _)
      | (with_reducible exact catchpitref05_Great.mono _ _)
      | (with_reducible exact catchpitref05_Texts.mono _ _ _)
      | (with_reducible exact LeO.refl _)
      | (with_reducible exact LeO.none _)
      | (with_reducible refine LeO.ite ?_ ?_)
      | (with_reducible refine LeO.bind ?_ (fun _ => ?_))
      | exact ih0 _ _ _ _
      | exact catchpitref05_Fields.mono _ _ _
      | exact catchpitref05_Great.mono _ _
      | exact catchpitref05_Texts.mono _ _ _
      | exact LeO.none _
      | refine LeO.ite ?_ ?_
      | refine LeO.bind ?_ (fun _ => ?_)
def block_next.f (a0 : Int) (a1 : Int) : Option (Int × Bool) := (some (([a1] : List Int) : List Int)).bind fun y287 => (if a0 = 0 then (if a1 = 13 then (some (4, true)) else ((octet_Token.f (strOfNums y287)).bind fun t290 => (some (1, t290)))) else (if a0 = 1 then (if a1 = 58 then (some (2, true)) else ((octet_Token.f (strOfNums y287)).bind fun t291 => (some (1, t291)))) else (if a0 = 2 then (if a1 = 13 then (some (3, true)) else ((octet_Text.f (strOfNums y287)).bind fun t292 => (some (2, t292)))) else (if a0 = 3 then (some (0, (a1 == 10))) else (if a0 = 4 then (some (5, (a1 == 10))) else (some (5, false)))))))
set_option maxHeartbeats 8000000 in
set_option maxRecDepth 100000 in
theorem block_next.calls (a0 : Int) (a1 : Int) (r1 : Int) (r2 : Bool) (w : World) (hG : TabOk w) (h : block_next.f a0 a1 = some (r1, r2)) :
    Calls Tryd.prog 57 #[.int .i64 a0, .int .u8 a1] w fun e w' => e = .returned (.tuple #[.int .i64 r1, .bool r2]) ∧ Below w.heap.size w w' := by
  have HB := Aside0.mk (Below.refl w.heap.size w)
  have H : ((some (([a1] : List Int) : List Int)).bind fun y287 => (if a0 = 0 then (if a1 = 13 then (some (4, true)) else ((octet_Token.f (strOfNums y287)).bind fun t290 => (some (1, t290)))) else (if a0 = 1 then (if a1 = 58 then (some (2, true)) else ((octet_Token.f (strOfNums y287)).bind fun t291 => (some (1, t291)))) else (if a0 = 2 then (if a1 = 13 then (some (3, true)) else ((octet_Text.f (strOfNums y287)).bind fun t292 => (some (2, t292)))) else (if a0 = 3 then (some (0, (a1 == 10))) else (if a0 = 4 then (some (5, (a1 == 10))) else (some (5, false)))))))) = some (r1, r2) := h
  clear h
  obtain ⟨y287, hy287⟩ : ∃ y_ : List Int, y_ = (([a1] : List Int)) := ⟨_, rfl⟩
  replace H : (if a0 = 0 then (if a1 = 13 then (some (4, true)) else ((octet_Token.f (strOfNums y287)).bind fun t290 => (some (1, t290)))) else (if a0 = 1 then (if a1 = 58 then (some (2, true)) else ((octet_Token.f (strOfNums y287)).bind fun t291 => (some (1, t291)))) else (if a0 = 2 then (if a1 = 13 then (some (3, true)) else ((octet_Text.f (strOfNums y287)).bind fun t292 => (some (2, t292)))) else (if a0 = 3 then (some (0, (a1 == 10))) else (if a0 = 4 then (some (5, (a1 == 10))) else (some (5, false))))))) = some (r1, r2) := by first | (rw [hy287]; with_reducible exact H) | (have H2_ := (Option.bind_some _ _).symm.trans H; rw [hy287]; with_reducible exact H2_) | (have H2_ := (Option.bind_some _ _).symm.trans H; with_reducible exact H2_) | with_reducible exact H | (rw [hy287]; exact H) | exact H
  have Ny287 := Aside0.mk hy287
  clear hy287
  by_cases c3 : a0 = 0
  · rw [if_pos c3] at H
    have c3b0 : (a0 == 0) = true := beq_iff_eq.mpr c3
    have c3b1 : (a0 != 0) = false := bne_eq_false_iff_eq.mpr c3
    clear c3
    by_cases c4 : a1 = 13
    · rw [if_pos c4] at H
      have c4b0 : (a1 == 13) = true := beq_iff_eq.mpr c4
      have c4b1 : (a1 != 13) = false := bne_eq_false_iff_eq.mpr c4
      clear c4
      simp only [Option.some.injEq, Prod.mk.injEq] at H
      obtain ⟨rfl, rfl⟩ := H
      go_enter Tryd.func57, Tryd.ntmps57
      go_wp2_with (first | ((with_reducible refine gate_dst (N := 8) rfl ?_); refine Kd.R_lit (Kd.int .u8) _ 5 ?hg (N := 8) ?hd (xs := ([a1] : List Int)) (inner := [.int .u8 a1]) (ok := fun _ => True) (okp := fun _ => True) ?hr ?hp (fun _ hk => hk) trivial (Below.refl _ _) (Nat.le_refl _) (by simp) ?_; (case hd => rfl); (case hg => rfl); (case hr => first | (go_simp; done) | (go_simp; rfl)); (case hp => exact (Reps.one (show Kd.M (Kd.int .u8) _ _ _ a1 [.int .u8 a1] from rfl) (Reps.none _ _))); intro v288 w5 ho6 hb hg_ hnew_; clear hg_ hnew_; (first | rw [← Ny287.out] at ho6 | (simp only [Int.reduceToNat] at ho6; rw [← Ny287.out] at ho6)); have n0_ := Aside0.mk (Kd.R_lower ho6 (below_size (by repeat (first | (with_reducible first | exact HB.out | apply below_alloc | apply pw_below_drewN | apply below_drew1) | exact HB.out)))); have n1_ := Aside0.mk (below_step (by repeat (first | (with_reducible first | exact HB.out | apply below_alloc | apply pw_below_drewN | apply below_drew1) | exact HB.out)) hb); clear HB; have HO289 := n0_; have HB := n1_; clear n0_ n1_; clear hb ho6; have hcv7 := own_string (P := Tryd.prog) Tryd.underlying80 Tryd.underlying5 Tryd.underlying9 (Kd.own_of_R HO289.out)))
      go_ret2
      exact ⟨by first | rfl | (simp [errW_none, errW_some] <;> rfl) | (simp [*, errW_none, errW_some] <;> rfl), by repeat (first | (with_reducible first | exact HB.out | apply below_alloc | apply pw_below_drewN | apply below_drew1) | exact HB.out)⟩
    · rw [if_neg c4] at H
      have c4b0 : (a1 == 13) = false := beq_eq_false_iff_ne.mpr c4
      have c4b1 : (a1 != 13) = true := bne_iff_ne.mpr c4
      replace H := Option.bind_eq_some_iff.mp H
      obtain ⟨t290, A80, H⟩ := H
      replace H : (some (1, t290)) = some (r1, r2) := H
      have A8 := Aside0.mk A80
      clear A80
      simp only [Option.some.injEq, Prod.mk.injEq] at H
      obtain ⟨rfl, rfl⟩ := H
      go_enter Tryd.func57, Tryd.ntmps57
      go_wp2_with (first | ((with_reducible refine gate_dst (N := 8) rfl ?_); refine Kd.R_lit (Kd.int .u8) _ 5 ?hg (N := 8) ?hd (xs := ([a1] : List Int)) (inner := [.int .u8 a1]) (ok := fun _ => True) (okp := fun _ => True) ?hr ?hp (fun _ hk => hk) trivial (Below.refl _ _) (Nat.le_refl _) (by simp) ?_; (case hd => rfl); (case hg => rfl); (case hr => first | (go_simp; done) | (go_simp; rfl)); (case hp => exact (Reps.one (show Kd.M (Kd.int .u8) _ _ _ a1 [.int .u8 a1] from rfl) (Reps.none _ _))); intro v288 w9 ho10 hb hg_ hnew_; clear hg_ hnew_; (first | rw [← Ny287.out] at ho10 | (simp only [Int.reduceToNat] at ho10; rw [← Ny287.out] at ho10)); have n0_ := Aside0.mk (Kd.R_lower ho10 (below_size (by repeat (first | (with_reducible first | exact HB.out | apply below_alloc | apply pw_below_drewN | apply below_drew1) | exact HB.out)))); have n1_ := Aside0.mk (below_step (by repeat (first | (with_reducible first | exact HB.out | apply below_alloc | apply pw_below_drewN | apply below_drew1) | exact HB.out)) hb); clear HB; have HO289 := n0_; have HB := n1_; clear n0_ n1_; clear hb ho10; have hcv11 := own_string (P := Tryd.prog) Tryd.underlying80 Tryd.underlying5 Tryd.underlying9 (Kd.own_of_R HO289.out)) | ((with_reducible refine gate_callee (f := 43) rfl ?_); refine goesL_ (some 16) rfl rfl Tryd.func43 (by kernel_rfl) rfl #[.string (strOfNums y287)] rfl (by (try simp only [List.map_toArray, List.map_cons, List.map_nil]); first | done | rfl | (simp only [List.length_drop, List.length_take]; rfl)) ?_; (with_reducible refine (octet_Token.calls (strOfNums y287) t290 _ ?side1 A8.out).mono ?_); (case side1 => first | exact hG | exact TabOk.drewN hG _ | exact TabOk.drewN (TabOk.drewN hG _) _ | exact TabOk.below hG (by repeat (first | (with_reducible first | exact HB.out | apply below_alloc | apply pw_below_drewN | apply below_drew1) | exact HB.out))); rintro e w12 ⟨rfl, hb⟩; refine ⟨_, rfl, ?_⟩; have n0_ := Aside0.mk (Kd.R_below (by (with_reducible repeat (first | apply Kd.R_alloc | apply Kd.R_drewN | apply Kd.R_drew)); exact HO289.out) hb); have n1_ := Aside0.mk (below_step (by repeat (first | (with_reducible first | exact HB.out | apply below_alloc | apply pw_below_drewN | apply below_drew1) | exact HB.out)) hb); clear HO289; clear HB; have HO289 := n0_; have HB := n1_; clear n0_ n1_; (try clear hb); (try clear hb2); (try clear hk); (try clear hi)))
      go_ret2
      exact ⟨by first | rfl | (simp [errW_none, errW_some] <;> rfl) | (simp [*, errW_none, errW_some] <;> rfl), by repeat (first | (with_reducible first | exact HB.out | apply below_alloc | apply pw_below_drewN | apply below_drew1) | exact HB.out)⟩
  · rw [if_neg c3] at H
    have c3b0 : (a0 == 0) = false := beq_eq_false_iff_ne.mpr c3
    have c3b1 : (a0 != 0) = true := bne_iff_ne.mpr c3
    by_cases c13 : a0 = 1
    · rw [if_pos c13] at H
      have c13b0 : (a0 == 1) = true := beq_iff_eq.mpr c13
      have c13b1 : (a0 != 1) = false := bne_eq_false_iff_eq.mpr c13
      clear c13
      by_cases c14 : a1 = 58
      · rw [if_pos c14] at H
        have c14b0 : (a1 == 58) = true := beq_iff_eq.mpr c14
        have c14b1 : (a1 != 58) = false := bne_eq_false_iff_eq.mpr c14
        clear c14
        simp only [Option.some.injEq, Prod.mk.injEq] at H
        obtain ⟨rfl, rfl⟩ := H
        go_enter Tryd.func57, Tryd.ntmps57
        go_wp2_with (first | ((with_reducible refine gate_dst (N := 8) rfl ?_); refine Kd.R_lit (Kd.int .u8) _ 5 ?hg (N := 8) ?hd (xs := ([a1] : List Int)) (inner := [.int .u8 a1]) (ok := fun _ => True) (okp := fun _ => True) ?hr ?hp (fun _ hk => hk) trivial (Below.refl _ _) (Nat.le_refl _) (by simp) ?_; (case hd => rfl); (case hg => rfl); (case hr => first | (go_simp; done) | (go_simp; rfl)); (case hp => exact (Reps.one (show Kd.M (Kd.int .u8) _ _ _ a1 [.int .u8 a1] from rfl) (Reps.none _ _))); intro v288 w15 ho16 hb hg_ hnew_; clear hg_ hnew_; (first | rw [← Ny287.out] at ho16 | (simp only [Int.reduceToNat] at ho16; rw [← Ny287.out] at ho16)); have n0_ := Aside0.mk (Kd.R_lower ho16 (below_size (by repeat (first | (with_reducible first | exact HB.out | apply below_alloc | apply pw_below_drewN | apply below_drew1) | exact HB.out)))); have n1_ := Aside0.mk (below_step (by repeat (first | (with_reducible first | exact HB.out | apply below_alloc | apply pw_below_drewN | apply below_drew1) | exact HB.out)) hb); clear HB; have HO289 := n0_; have HB := n1_; clear n0_ n1_; clear hb ho16; have hcv17 := own_string (P := Tryd.prog) Tryd.underlying80 Tryd.underlying5 Tryd.underlying9 (Kd.own_of_R HO289.out)))
        go_ret2
        exact ⟨by first | rfl | (simp [errW_none, errW_some] <;> rfl) | (simp [*, errW_none, errW_some] <;> rfl), by repeat (first | (with_reducible first | exact HB.out | apply below_alloc | apply pw_below_drewN | apply below_drew1) | exact HB.out)⟩
      · rw [if_neg c14] at H
        have c14b0 : (a1 == 58) = false := beq_eq_false_iff_ne.mpr c14
        have c14b1 : (a1 != 58) = true := bne_iff_ne.mpr c14
        replace H := Option.bind_eq_some_iff.mp H
        obtain ⟨t291, A180, H⟩ := H
        replace H : (some (1, t291)) = some (r1, r2) := H
        have A18 := Aside0.mk A180
        clear A180
        simp only [Option.some.injEq, Prod.mk.injEq] at H
        obtain ⟨rfl, rfl⟩ := H
        go_enter Tryd.func57, Tryd.ntmps57
        go_wp2_with (first | ((with_reducible refine gate_dst (N := 8) rfl ?_); refine Kd.R_lit (Kd.int .u8) _ 5 ?hg (N := 8) ?hd (xs := ([a1] : List Int)) (inner := [.int .u8 a1]) (ok := fun _ => True) (okp := fun _ => True) ?hr ?hp (fun _ hk => hk) trivial (Below.refl _ _) (Nat.le_refl _) (by simp) ?_; (case hd => rfl); (case hg => rfl); (case hr => first | (go_simp; done) | (go_simp; rfl)); (case hp => exact (Reps.one (show Kd.M (Kd.int .u8) _ _ _ a1 [.int .u8 a1] from rfl) (Reps.none _ _))); intro v288 w19 ho20 hb hg_ hnew_; clear hg_ hnew_; (first | rw [← Ny287.out] at ho20 | (simp only [Int.reduceToNat] at ho20; rw [← Ny287.out] at ho20)); have n0_ := Aside0.mk (Kd.R_lower ho20 (below_size (by repeat (first | (with_reducible first | exact HB.out | apply below_alloc | apply pw_below_drewN | apply below_drew1) | exact HB.out)))); have n1_ := Aside0.mk (below_step (by repeat (first | (with_reducible first | exact HB.out | apply below_alloc | apply pw_below_drewN | apply below_drew1) | exact HB.out)) hb); clear HB; have HO289 := n0_; have HB := n1_; clear n0_ n1_; clear hb ho20; have hcv21 := own_string (P := Tryd.prog) Tryd.underlying80 Tryd.underlying5 Tryd.underlying9 (Kd.own_of_R HO289.out)) | ((with_reducible refine gate_callee (f := 43) rfl ?_); refine goesL_ (some 22) rfl rfl Tryd.func43 (by kernel_rfl) rfl #[.string (strOfNums y287)] rfl (by (try simp only [List.map_toArray, List.map_cons, List.map_nil]); first | done | rfl | (simp only [List.length_drop, List.length_take]; rfl)) ?_; (with_reducible refine (octet_Token.calls (strOfNums y287) t291 _ ?side1 A18.out).mono ?_); (case side1 => first | exact hG | exact TabOk.drewN hG _ | exact TabOk.drewN (TabOk.drewN hG _) _ | exact TabOk.below hG (by repeat (first | (with_reducible first | exact HB.out | apply below_alloc | apply pw_below_drewN | apply below_drew1) | exact HB.out))); rintro e w22 ⟨rfl, hb⟩; refine ⟨_, rfl, ?_⟩; have n0_ := Aside0.mk (Kd.R_below (by (with_reducible repeat (first | apply Kd.R_alloc | apply Kd.R_drewN | apply Kd.R_drew)); exact HO289.out) hb); have n1_ := Aside0.mk (below_step (by repeat (first | (with_reducible first | exact HB.out | apply below_alloc | apply pw_below_drewN | apply below_drew1) | exact HB.out)) hb); clear HO289; clear HB; have HO289 := n0_; have HB := n1_; clear n0_ n1_; (try clear hb); (try clear hb2); (try clear hk); (try clear hi)))
        go_ret2
        exact ⟨by first | rfl | (simp [errW_none, errW_some] <;> rfl) | (simp [*, errW_none, errW_some] <;> rfl), by repeat (first | (with_reducible first | exact HB.out | apply below_alloc | apply pw_below_drewN | apply below_drew1) | exact HB.out)⟩
    · rw [if_neg c13] at H
      have c13b0 : (a0 == 1) = false := beq_eq_false_iff_ne.mpr c13
      have c13b1 : (a0 != 1) = true := bne_iff_ne.mpr c13
      by_cases c23 : a0 = 2
      · rw [if_pos c23] at H
        have c23b0 : (a0 == 2) = true := beq_iff_eq.mpr c23
        have c23b1 : (a0 != 2) = false := bne_eq_false_iff_eq.mpr c23
        clear c23
        by_cases c24 : a1 = 13
        · rw [if_pos c24] at H
          have c24b0 : (a1 == 13) = true := beq_iff_eq.mpr c24
          have c24b1 : (a1 != 13) = false := bne_eq_false_iff_eq.mpr c24
          clear c24
          simp only [Option.some.injEq, Prod.mk.injEq] at H
          obtain ⟨rfl, rfl⟩ := H
          go_enter Tryd.func57, Tryd.ntmps57
          go_wp2_with (first | ((with_reducible refine gate_dst (N := 8) rfl ?_); refine Kd.R_lit (Kd.int .u8) _ 5 ?hg (N := 8) ?hd (xs := ([a1] : List Int)) (inner := [.int .u8 a1]) (ok := fun _ => True) (okp := fun _ => True) ?hr ?hp (fun _ hk => hk) trivial (Below.refl _ _) (Nat.le_refl _) (by simp) ?_; (case hd => rfl); (case hg => rfl); (case hr => first | (go_simp; done) | (go_simp; rfl)); (case hp => exact (Reps.one (show Kd.M (Kd.int .u8) _ _ _ a1 [.int .u8 a1] from rfl) (Reps.none _ _))); intro v288 w25 ho26 hb hg_ hnew_; clear hg_ hnew_; (first | rw [← Ny287.out] at ho26 | (simp only [Int.reduceToNat] at ho26; rw [← Ny287.out] at ho26)); have n0_ := Aside0.mk (Kd.R_lower ho26 (below_size (by repeat (first | (with_reducible first | exact HB.out | apply below_alloc | apply pw_below_drewN | apply below_drew1) | exact HB.out)))); have n1_ := Aside0.mk (below_step (by repeat (first | (with_reducible first | exact HB.out | apply below_alloc | apply pw_below_drewN | apply below_drew1) | exact HB.out)) hb); clear HB; have HO289 := n0_; have HB := n1_; clear n0_ n1_; clear hb ho26; have hcv27 := own_string (P := Tryd.prog) Tryd.underlying80 Tryd.underlying5 Tryd.underlying9 (Kd.own_of_R HO289.out)))
          go_ret2
          exact ⟨by first | rfl | (simp [errW_none, errW_some] <;> rfl) | (simp [*, errW_none, errW_some] <;> rfl), by repeat (first | (with_reducible first | exact HB.out | apply below_alloc | apply pw_below_drewN | apply below_drew1) | exact HB.out)⟩
        · rw [if_neg c24] at H
          have c24b0 : (a1 == 13) = false := beq_eq_false_iff_ne.mpr c24
          have c24b1 : (a1 != 13) = true := bne_iff_ne.mpr c24
          replace H := Option.bind_eq_some_iff.mp H
          obtain ⟨t292, A280, H⟩ := H
          replace H : (some (2, t292)) = some (r1, r2) := H
          have A28 := Aside0.mk A280
          clear A280
          simp only [Option.some.injEq, Prod.mk.injEq] at H
          obtain ⟨rfl, rfl⟩ := H
          go_enter Tryd.func57, Tryd.ntmps57
          go_wp2_with (first | ((with_reducible refine gate_dst (N := 8) rfl ?_); refine Kd.R_lit (Kd.int .u8) _ 5 ?hg (N := 8) ?hd (xs := ([a1] : List Int)) (inner := [.int .u8 a1]) (ok := fun _ => True) (okp := fun _ => True) ?hr ?hp (fun _ hk => hk) trivial (Below.refl _ _) (Nat.le_refl _) (by simp) ?_; (case hd => rfl); (case hg => rfl); (case hr => first | (go_simp; done) | (go_simp; rfl)); (case hp => exact (Reps.one (show Kd.M (Kd.int .u8) _ _ _ a1 [.int .u8 a1] from rfl) (Reps.none _ _))); intro v288 w29 ho30 hb hg_ hnew_; clear hg_ hnew_; (first | rw [← Ny287.out] at ho30 | (simp only [Int.reduceToNat] at ho30; rw [← Ny287.out] at ho30)); have n0_ := Aside0.mk (Kd.R_lower ho30 (below_size (by repeat (first | (with_reducible first | exact HB.out | apply below_alloc | apply pw_below_drewN | apply below_drew1) | exact HB.out)))); have n1_ := Aside0.mk (below_step (by repeat (first | (with_reducible first | exact HB.out | apply below_alloc | apply pw_below_drewN | apply below_drew1) | exact HB.out)) hb); clear HB; have HO289 := n0_; have HB := n1_; clear n0_ n1_; clear hb ho30; have hcv31 := own_string (P := Tryd.prog) Tryd.underlying80 Tryd.underlying5 Tryd.underlying9 (Kd.own_of_R HO289.out)) | ((with_reducible refine gate_callee (f := 71) rfl ?_); refine goesL_ (some 28) rfl rfl Tryd.func71 (by kernel_rfl) rfl #[.string (strOfNums y287)] rfl (by (try simp only [List.map_toArray, List.map_cons, List.map_nil]); first | done | rfl | (simp only [List.length_drop, List.length_take]; rfl)) ?_; (with_reducible refine (octet_Text.calls (strOfNums y287) t292 _ ?side1 A28.out).mono ?_); (case side1 => first | exact hG | exact TabOk.drewN hG _ | exact TabOk.drewN (TabOk.drewN hG _) _ | exact TabOk.below hG (by repeat (first | (with_reducible first | exact HB.out | apply below_alloc | apply pw_below_drewN | apply below_drew1) | exact HB.out))); rintro e w32 ⟨rfl, hb⟩; refine ⟨_, rfl, ?_⟩; have n0_ := Aside0.mk (Kd.R_below (by (with_reducible repeat (first | apply Kd.R_alloc | apply Kd.R_drewN | apply Kd.R_drew)); exact HO289.out) hb); have n1_ := Aside0.mk (below_step (by repeat (first | (with_reducible first | exact HB.out | apply below_alloc | apply pw_below_drewN | apply below_drew1) | exact HB.out)) hb); clear HO289; clear HB; have HO289 := n0_; have HB := n1_; clear n0_ n1_; (try clear hb); (try clear hb2); (try clear hk); (try clear hi)))
          go_ret2
          exact ⟨by first | rfl | (simp [errW_none, errW_some] <;> rfl) | (simp [*, errW_none, errW_some] <;> rfl), by repeat (first | (with_reducible first | exact HB.out | apply below_alloc | apply pw_below_drewN | apply below_drew1) | exact HB.out)⟩
      · rw [if_neg c23] at H
        have c23b0 : (a0 == 2) = false := beq_eq_false_iff_ne.mpr c23
        have c23b1 : (a0 != 2) = true := bne_iff_ne.mpr c23
        by_cases c33 : a0 = 3
        · rw [if_pos c33] at H
          have c33b0 : (a0 == 3) = true := beq_iff_eq.mpr c33
          have c33b1 : (a0 != 3) = false := bne_eq_false_iff_eq.mpr c33
          clear c33
          simp only [Option.some.injEq, Prod.mk.injEq] at H
          obtain ⟨rfl, rfl⟩ := H
          go_enter Tryd.func57, Tryd.ntmps57
          go_wp2_with (first | ((with_reducible refine gate_dst (N := 8) rfl ?_); refine Kd.R_lit (Kd.int .u8) _ 5 ?hg (N := 8) ?hd (xs := ([a1] : List Int)) (inner := [.int .u8 a1]) (ok := fun _ => True) (okp := fun _ => True) ?hr ?hp (fun _ hk => hk) trivial (Below.refl _ _) (Nat.le_refl _) (by simp) ?_; (case hd => rfl); (case hg => rfl); (case hr => first | (go_simp; done) | (go_simp; rfl)); (case hp => exact (Reps.one (show Kd.M (Kd.int .u8) _ _ _ a1 [.int .u8 a1] from rfl) (Reps.none _ _))); intro v288 w34 ho35 hb hg_ hnew_; clear hg_ hnew_; (first | rw [← Ny287.out] at ho35 | (simp only [Int.reduceToNat] at ho35; rw [← Ny287.out] at ho35)); have n0_ := Aside0.mk (Kd.R_lower ho35 (below_size (by repeat (first | (with_reducible first | exact HB.out | apply below_alloc | apply pw_below_drewN | apply below_drew1) | exact HB.out)))); have n1_ := Aside0.mk (below_step (by repeat (first | (with_reducible first | exact HB.out | apply below_alloc | apply pw_below_drewN | apply below_drew1) | exact HB.out)) hb); clear HB; have HO289 := n0_; have HB := n1_; clear n0_ n1_; clear hb ho35; have hcv36 := own_string (P := Tryd.prog) Tryd.underlying80 Tryd.underlying5 Tryd.underlying9 (Kd.own_of_R HO289.out)))
          go_ret2
          exact ⟨by first | rfl | (simp [errW_none, errW_some] <;> rfl) | (simp [*, errW_none, errW_some] <;> rfl), by repeat (first | (with_reducible first | exact HB.out | apply below_alloc | apply pw_below_drewN | apply below_drew1) | exact HB.out)⟩
        · rw [if_neg c33] at H
          have c33b0 : (a0 == 3) = false := beq_eq_false_iff_ne.mpr c33
          have c33b1 : (a0 != 3) = true := bne_iff_ne.mpr c33
          by_cases c37 : a0 = 4
          · rw [if_pos c37] at H
            have c37b0 : (a0 == 4) = true := beq_iff_eq.mpr c37
            have c37b1 : (a0 != 4) = false := bne_eq_false_iff_eq.mpr c37
            clear c37
            simp only [Option.some.injEq, Prod.mk.injEq] at H
            obtain ⟨rfl, rfl⟩ := H
            go_enter Tryd.func57, Tryd.ntmps57
            go_wp2_with (first | ((with_reducible refine gate_dst (N := 8) rfl ?_); refine Kd.R_lit (Kd.int .u8) _ 5 ?hg (N := 8) ?hd (xs := ([a1] : List Int)) (inner := [.int .u8 a1]) (ok := fun _ => True) (okp := fun _ => True) ?hr ?hp (fun _ hk => hk) trivial (Below.refl _ _) (Nat.le_refl _) (by simp) ?_; (case hd => rfl); (case hg => rfl); (case hr => first | (go_simp; done) | (go_simp; rfl)); (case hp => exact (Reps.one (show Kd.M (Kd.int .u8) _ _ _ a1 [.int .u8 a1] from rfl) (Reps.none _ _))); intro v288 w38 ho39 hb hg_ hnew_; clear hg_ hnew_; (first | rw [← Ny287.out] at ho39 | (simp only [Int.reduceToNat] at ho39; rw [← Ny287.out] at ho39)); have n0_ := Aside0.mk (Kd.R_lower ho39 (below_size (by repeat (first | (with_reducible first | exact HB.out | apply below_alloc | apply pw_below_drewN | apply below_drew1) | exact HB.out)))); have n1_ := Aside0.mk (below_step (by repeat (first | (with_reducible first | exact HB.out | apply below_alloc | apply pw_below_drewN | apply below_drew1) | exact HB.out)) hb); clear HB; have HO289 := n0_; have HB := n1_; clear n0_ n1_; clear hb ho39; have hcv40 := own_string (P := Tryd.prog) Tryd.underlying80 Tryd.underlying5 Tryd.underlying9 (Kd.own_of_R HO289.out)))
            go_ret2
            exact ⟨by first | rfl | (simp [errW_none, errW_some] <;> rfl) | (simp [*, errW_none, errW_some] <;> rfl), by repeat (first | (with_reducible first | exact HB.out | apply below_alloc | apply pw_below_drewN | apply below_drew1) | exact HB.out)⟩
          · rw [if_neg c37] at H
            have c37b0 : (a0 == 4) = false := beq_eq_false_iff_ne.mpr c37
            have c37b1 : (a0 != 4) = true := bne_iff_ne.mpr c37
            simp only [Option.some.injEq, Prod.mk.injEq] at H
            obtain ⟨rfl, rfl⟩ := H
            go_enter Tryd.func57, Tryd.ntmps57
            go_wp2_with (first | ((with_reducible refine gate_dst (N := 8) rfl ?_); refine Kd.R_lit (Kd.int .u8) _ 5 ?hg (N := 8) ?hd (xs := ([a1] : List Int)) (inner := [.int .u8 a1]) (ok := fun _ => True) (okp := fun _ => True) ?hr ?hp (fun _ hk => hk) trivial (Below.refl _ _) (Nat.le_refl _) (by simp) ?_; (case hd => rfl); (case hg => rfl); (case hr => first | (go_simp; done) | (go_simp; rfl)); (case hp => exact (Reps.one (show Kd.M (Kd.int .u8) _ _ _ a1 [.int .u8 a1] from rfl) (Reps.none _ _))); intro v288 w41 ho42 hb hg_ hnew_; clear hg_ hnew_; (first | rw [← Ny287.out] at ho42 | (simp only [Int.reduceToNat] at ho42; rw [← Ny287.out] at ho42)); have n0_ := Aside0.mk (Kd.R_lower ho42 (below_size (by repeat (first | (with_reducible first | exact HB.out | apply below_alloc | apply pw_below_drewN | apply below_drew1) | exact HB.out)))); have n1_ := Aside0.mk (below_step (by repeat (first | (with_reducible first | exact HB.out | apply below_alloc | apply pw_below_drewN | apply below_drew1) | exact HB.out)) hb); clear HB; have HO289 := n0_; have HB := n1_; clear n0_ n1_; clear hb ho42; have hcv43 := own_string (P := Tryd.prog) Tryd.underlying80 Tryd.underlying5 Tryd.underlying9 (Kd.own_of_R HO289.out)))
            go_ret2
            exact ⟨by first | rfl | (simp [errW_none, errW_some] <;> rfl) | (simp [*, errW_none, errW_some] <;> rfl), by repeat (first | (with_reducible first | exact HB.out | apply below_alloc | apply pw_below_drewN | apply below_drew1) | exact HB.out)⟩
end Go.Proofs.YtdkecmjoenfjdaaDoor.Pr
end
section
namespace Go.Proofs.YtdkecmjoenfjdaaDoorH
open Go.RowKit Go.Shelf Go.Proofs.YtdkecmjoenfjdaaDoorW.PrintWords Go.Proofs.YtdkecmjoenfjdaaDoorW.PrintLast Go.Proofs.YtdkecmjoenfjdaaDoorW.PrintMore Go.Proofs.YtdkecmjoenfjdaaDoor.Pr
attribute [local go_sem] Oper.semAt_some
def nxt (st c : Int) : Int × Bool := (block_next.f st c).getD (5, false)
theorem one_size (c : Int) : (strOfNums ([c] : List Int)).size = 1 := rfl
theorem nxt_eq (st c : Int) : block_next.f st c = some (nxt st c) := by
  have h1 : octet_Token.f (strOfNums ([c] : List Int)) = some (tokB (strOfNums ([c] : List Int))) := by
    unfold octet_Token.f
    rw [if_pos (by rw [one_size]; omega)]
  have h2 : octet_Text.f (strOfNums ([c] : List Int)) = some (allB textI (strOfNums ([c] : List Int))) := by
    unfold octet_Text.f
    rw [if_pos (by rw [one_size]; omega)]
  unfold nxt block_next.f
  simp only [Option.bind_some, h1, h2]
  repeat' split
  all_goals rfl
theorem bt_get (s : ByteArray) (i : Nat) (h : i < s.size) : bt s (i : Int) = ((s[i]'h).toNat : Int) := by
  rw [bt_nat s i h, List.getD_eq_getElem?_getD, List.getElem?_eq_getElem (by rw [← size_eq_length]; exact h)]
  rfl
def scanP : Nat → ByteArray → Nat → Int → Nat × Int
  | 0, _, i, _ => (i, 4)
  | k + 1, s, i, st => if i < s.size then (if (nxt st (bt s i)).2 = true then (if (nxt st (bt s i)).1 = 5 then (i + 1, 0) else scanP k s (i + 1) (nxt st (bt s i)).1) else (i, 2)) else (i, 4)
theorem scanP_end (k : Nat) (s : ByteArray) (st : Int) : scanP k s s.size st = (s.size, 4) := by
  cases k with
  | zero => rfl
  | succ k => rw [scanP, if_neg (Nat.lt_irrefl _)]
theorem scanP_bad (k : Nat) (s : ByteArray) (i : Nat) (st nx : Int) (hi : i < s.size) (h : nxt st (bt s i) = (nx, false)) : scanP (k + 1) s i st = (i, 2) := by
  rw [scanP, if_pos hi, h]; rfl
theorem scanP_done (k : Nat) (s : ByteArray) (i : Nat) (st : Int) (hi : i < s.size) (h : nxt st (bt s i) = (5, true)) : scanP (k + 1) s i st = (i + 1, 0) := by
  rw [scanP, if_pos hi, h]; rfl
theorem scanP_on (k : Nat) (s : ByteArray) (i : Nat) (st nx : Int) (hi : i < s.size) (h : nxt st (bt s i) = (nx, true)) (h5 : nx ≠ 5) : scanP (k + 1) s i st = scanP k s (i + 1) nx := by
  rw [scanP, if_pos hi, h]; simp only [if_pos]; rw [if_neg h5]
theorem results_cell3 {fn : Func} {p u x : Tmp} {ty : TypeId} (h : fn.results = #[.cell p ty, .tmp u, .tmp x]) (tmps : Array Value) (P : Program) (w : World) (a : Addr) (v : Value)
    (hp : tmps.getD p undef = .pointer (some a)) (hA : (isAgg ty).run P w = .ok false w) (hc : w.cell? a = some v) : (results fn tmps).run P w = .ok (.tuple #[v, tmps.getD u undef, tmps.getD x undef]) w := by
  rw [Array.getD_eq_getD_getElem?] at hp
  simp only [results, h]
  simp [Sem.run_bind, Result.andThen, hp, loadVar, hA, asAddr, go_sem, hc]
def fldOf (s : ByteArray) : Fld := ⟨parseF s, parseV s⟩
def fieldsOf : List (Nat × ByteArray) → List Fld
  | [] => []
  | x :: l => if x.2.size = 0 then [] else fldOf x.2 :: fieldsOf l
theorem fieldsOf_snoc : ∀ (l : List (Nat × ByteArray)) (x : Nat × ByteArray), (∀ y ∈ l, y.2.size ≠ 0) → fieldsOf (l ++ [x]) = fieldsOf l ++ (if x.2.size = 0 then [] else [fldOf x.2])
  | [], x, _ => rfl
  | y :: l, x, h => by
    rw [List.cons_append, fieldsOf, fieldsOf, if_neg (h y List.mem_cons_self), if_neg (h y List.mem_cons_self), fieldsOf_snoc l x (fun z hz => h z (List.mem_cons_of_mem _ hz))]
    rfl
theorem fieldsOf_prefix : ∀ l r : List (Nat × ByteArray), (∃ y ∈ l, y.2.size = 0) → fieldsOf (l ++ r) = fieldsOf l
  | [], _, ⟨_, h, _⟩ => absurd h List.not_mem_nil
  | x :: l, r, ⟨y, hy, h0⟩ => by
    rw [List.cons_append, fieldsOf, fieldsOf]
    by_cases hx : x.2.size = 0
    · rw [if_pos hx, if_pos hx]
    · rw [if_neg hx, if_neg hx, fieldsOf_prefix l r]
      rcases List.mem_cons.1 hy with rfl | hy
      · exact absurd h0 hx
      · exact ⟨y, hy, h0⟩
theorem fieldsOf_length : ∀ l : List (Nat × ByteArray), (fieldsOf l).length ≤ l.length
  | [] => Nat.le_refl _
  | x :: l => by
    have := fieldsOf_length l
    rw [fieldsOf]
    split
    · simp
    · simp only [List.length_cons]; omega
def hasNil (l : List (Nat × ByteArray)) : Prop := ∃ y ∈ l, y.2.size = 0
def noNil (l : List (Nat × ByteArray)) : Prop := ∀ y ∈ l, y.2.size ≠ 0
theorem noNil_snoc {l : List (Nat × ByteArray)} {x : Nat × ByteArray} (h : noNil l) (hx : x.2.size ≠ 0) : noNil (l ++ [x]) := fun y hy => (List.mem_append.1 hy).elim (h y) (fun hy => by rcases List.mem_singleton.1 hy with rfl; exact hx)
def encF (x : Fld) : List Value := [.string x.f0, .string x.f1]
def scanR (s : ByteArray) : List Fld × Int × Int :=
  if (scanP (s.size + 1) s 0 0).2 = 0 then (fieldsOf (linesOf ((s.extract 0 (scanP (s.size + 1) s 0 0).1).size + 1) (s.extract 0 (scanP (s.size + 1) s 0 0).1) 0), (((scanP (s.size + 1) s 0 0).1 : Nat) : Int), 0)
  else ([], (((scanP (s.size + 1) s 0 0).1 : Nat) : Int), (scanP (s.size + 1) s 0 0).2)
theorem extract0_size (s : ByteArray) (k : Nat) (h : k ≤ s.size) : (s.extract 0 k).size = k := by
  have h1 := congrArg List.length (extract_to s k)
  rw [← size_eq_length, List.length_take, ← size_eq_length] at h1
  omega
theorem scanR_bad {s : ByteArray} {i : Nat} {e : Int} (h : scanP (s.size + 1) s 0 0 = (i, e)) (he : e ≠ 0) : scanR s = ([], (i : Int), e) := by
  unfold scanR
  rw [h, if_neg he]
theorem scanR_good {s : ByteArray} {i : Nat} (h : scanP (s.size + 1) s 0 0 = (i, 0)) (hi : i ≤ s.size) : scanR s = (fieldsOf (linesOf (i + 1) (s.extract 0 i) 0), (i : Int), 0) := by
  unfold scanR
  rw [h, if_pos rfl, extract0_size s i hi]
set_option maxRecDepth 100000 in
set_option maxHeartbeats 2000000 in
theorem scan_in (n : Nat) (hn : 4 ≤ n) (s : ByteArray) (hs : s.size < 4000000000) (w : World) (hG : TabOk w) :
    CallsIn Fence.wide n Tryd.prog 31 #[.string s] w fun e w' => ∃ (v : Value) (l : List Fld) (i er : Int), e = .returned (.tuple #[v, .int .i64 i, .int .i64 er]) ∧ scanR s = (l, i, er) ∧ Kd.R k24 24 w' w.heap.size (fun _ => True) v l ∧ Below w.heap.size w w' := by
  have h1 : 1 ≤ n := by omega
  refine callsIn_of_wp_marks Tryd.func31 rfl trivial ?_ rfl
  simp only [Tryd.ntmps31, List.size_toArray, List.length_cons, List.length_nil, Nat.reduceAdd, Nat.reduceSub, Array.replicate_succ, Array.replicate_zero, List.push_toArray, List.append_toArray, List.nil_append, List.cons_append]
  gi_wp2
  refine wpIn_scope_straight ?_
  gi_wp2
  apply wpIn_label
  gi_wp2
  gi_loopw [3, 5] (fun v3 v5 wr => ∃ (i k : Nat) (st : Int), i ≤ s.size ∧ s.size - i < k ∧ v3 = .int .i64 i ∧ v5 = .int .i64 st ∧ st ≠ 5 ∧ Aside0 (scanP (s.size + 1) s 0 0 = scanP k s i st) ∧ Aside0 (Boxed wr w.heap.size 36 (.slice none 0 0)) ∧ Aside0 (Below w.heap.size w wr))
    (fun v3 _ _ => s.size - (intOf v3).toNat)
  case atStart => exact ⟨0, s.size + 1, 0, Nat.zero_le _, by omega, rfl, rfl, by decide, ⟨rfl⟩, ⟨Boxed.new _ _ _⟩, ⟨below_alloc (Below.refl _ _) _⟩⟩
  case round =>
    obtain ⟨i, k, st, hi, hk, rfl, rfl, hst, hE, hbx, hb⟩ := hrel
    by_cases hlt : i < s.size
    · obtain ⟨k, rfl⟩ : ∃ q, k = q + 1 := ⟨k - 1, by omega⟩
      obtain ⟨q, hq⟩ : ∃ q, nxt st (bt s i) = q := ⟨_, rfl⟩
      obtain ⟨nx, ok⟩ := q
      have HC := Aside0.mk (block_next.calls st (bt s i) nx ok wr (hG.below hb.out) (by rw [nxt_eq, hq]))
      rw [bt_get s i hlt] at HC
      have HQ := Aside0.mk hq
      clear hq
      gi_wp2
      refine ⟨trivial, ?_⟩
      refine (callsIn_wide.2 HC.out).mono ?_
      rintro e w1 ⟨rfl, b1⟩
      have B1 := Aside0.mk (hb.out.trans (b1.mono hb.out.size))
      have X1 := Aside0.mk (show Boxed w1 w.heap.size 36 (.slice none 0 0) from (b1.block _ hbx.out.lt).trans hbx.out)
      clear b1 HC hbx hb
      cases ok with
      | false =>
        have hcl := X1.out.cell
        have hfz := X1.out.frozen
        gi_wp2
        refine ⟨_, results_cell3 rfl _ _ _ ⟨w.heap.size, 0, none⟩ (.slice none 0 0) rfl (run_isAgg_plain Tryd.underlying36 rfl _) (X1.out.set _).cell, ?_⟩
        exact ⟨_, [], _, _, rfl, scanR_bad (hE.out.trans (scanP_bad k s i st nx hlt HQ.out)) (by decide), Kd.R_nil _ _ _ _ _, B1.out.setCell (p := ⟨w.heap.size, 0, none⟩) (Nat.le_refl _) _⟩
      | true =>
        by_cases h5 : nx = 5
        · subst h5
          have HP := Aside0.mk (hE.out.trans (scanP_done k s i st hlt HQ.out))
          clear hE HQ
          have HL := Aside0.mk (lines_calls (s.extract 0 (i + 1)) w1)
          gi_wp2
          refine ⟨trivial, ?_⟩
          refine (callsIn_wide.2 HL.out).mono ?_
          rintro e w2 ⟨rfl, rfl⟩
          clear HL
          gi_wp2
          have hs1 := extract0_size s (i + 1) (by omega)
          have HB2 := Aside0.mk (show Below w.heap.size w (w1.alloc (.cells #[.string (s.extract 0 (i + 1))] 9)) from below_alloc B1.out _)
          have hwx : w.heap.size < w1.heap.size := X1.out.lt
          obtain ⟨ls, hls⟩ : ∃ ls, linesOf (i + 1 + 1) (s.extract 0 (i + 1)) 0 = ls := ⟨_, rfl⟩
          have HLL := Aside0.mk (show ls.length ≤ i + 2 by rw [← hls]; exact linesOf_length _ _ _)
          have HLZ := Aside0.mk (show ∀ y ∈ ls, y.2.size ≤ i + 1 by rw [← hls]; intro y hy; have := linesOf_size _ _ _ y hy; rwa [hs1] at this)
          have HSR := Aside0.mk (show scanR s = (fieldsOf ls, ((i + 1 : Nat) : Int), 0) by rw [scanR_good HP.out (by omega), hls])
          have HSQ := Aside0.mk (lines_own (n - 1) (by omega) w1.heap.size (s.extract 0 (i + 1)) (by rw [hs1]; omega) w hG _ HB2.out (Boxed.new w1 9 (.string (s.extract 0 (i + 1)))))
          rw [hs1, hls] at HSQ
          clear hls
          refine wpIn_range_own (F := Fence.wide) rfl rfl h1 (gf := 60) (lb := #[.pointer (some ⟨w1.heap.size, 0, none⟩)]) rfl trivial (enters_of Tryd.func60 (by kernel_rfl) rfl) HSQ.out (Below.refl _ _) (fun r h => h.elim)
            (by rintro r (h | rfl) <;> rw [World.size_alloc] <;> omega) (fun _ => rfl)
            (fun pre g W => ((∀ q, g = some q → w1.heap.size + 3 ≤ q) ∧ ∃ v, v.ownBlock = g ∧ Boxed W w.heap.size 36 v ∧ W.ownsRow w.heap.size 24 2 v (fieldsOf pre).length ((fieldsOf pre).flatMap encF)) ∧ (Below w.heap.size w W ∧ noNil pre))
            (fun c pre g W => ((∀ q, g = some q → w1.heap.size + 3 ≤ q) ∧ ∃ v, v.ownBlock = g ∧ Boxed W w.heap.size 36 v ∧ W.ownsRow w.heap.size 24 2 v (fieldsOf pre).length ((fieldsOf pre).flatMap encF)) ∧ (Below w.heap.size w W ∧ (c = .exit 2 ∧ hasNil pre)))
            (Abd.and (Abd.rowed (fun pre => (fieldsOf pre).length) (fun pre => (fieldsOf pre).flatMap encF) _ (by rw [World.size_alloc]; omega) (by rw [World.size_alloc]; omega) (fun h => h) (fun r h => h.elim)) (Abd.and (Abd.low (by rw [World.size_alloc]; omega) (Nat.le_refl _) (fun r h => h.elim)) (Abd.pure (β := List (Nat × ByteArray)) (fun pre _ => noNil pre))))
            (fun c => Abd.and (Abd.rowed (fun pre => (fieldsOf pre).length) (fun pre => (fieldsOf pre).flatMap encF) _ (by rw [World.size_alloc]; omega) (by rw [World.size_alloc]; omega) (fun h => h) (fun r h => h.elim)) (Abd.and (Abd.low (by rw [World.size_alloc]; omega) (Nat.le_refl _) (fun r h => h.elim)) (Abd.pure (β := List (Nat × ByteArray)) (fun pre _ => c = .exit 2 ∧ hasNil pre))))
            ⟨⟨(fun q e => by cases e), _, rfl, X1.out.alloc _, World.ownsRow_nil _ _ _ _⟩, HB2.out, fun y hy => absurd hy List.not_mem_nil⟩
            (fun pre g W q h e => by have := h.1.1 q e; rw [World.size_alloc]; omega) (fun c pre g W q h e => by have := h.1.1 q e; rw [World.size_alloc]; omega)
            (fun x a' _ => a' = { tmps := #[Value.string s, undef, Value.pointer (some { block := w.heap.size, off := 0 }),
              Value.int IntKind.i64 (↑i + 1), u4, Value.int IntKind.i64 5, Value.int IntKind.i64 5, Value.bool true, undef,
              Value.string x.2, undef, undef, Value.int IntKind.i64 ↑i, Value.string s, Value.int IntKind.i64 ↑s.size, Value.bool true,
              Value.tuple #[Value.int IntKind.i64 5, Value.bool true], Value.int IntKind.i64 st, Value.string s,
              Value.int IntKind.i64 ↑i, Value.int IntKind.u8 ↑s[i].toNat,
              Value.tuple #[Value.int IntKind.i64 5, Value.bool true], Value.int IntKind.i64 5, Value.bool true,
              Value.bool true, Value.bool false, u26, Value.int IntKind.i64 ↑i, Value.int IntKind.i64 (↑i + 1),
              Value.int IntKind.i64 5, Value.int IntKind.i64 5, Value.bool true, Value.int IntKind.i64 5, Value.bool false,
              undef, Value.string s, Value.int IntKind.i64 (↑i + 1), Value.string (s.extract 0 (i + 1)),
              Value.func (Fn.func 60) #[] #[Value.pointer (some { block := w1.heap.size, off := 0 })], Value.int IntKind.i64 ((x.1 : Nat) : Int), Value.string x.2, undef,
              undef, undef, undef, undef, undef, undef, undef, undef, undef, undef, undef, undef], defers := [] })
            (fun x a' _ _ _ _ _ h _ _ => h) ?assign ?body ?done ?stop
          case assign =>
            intro l pre x g W K hI hK
            dsimp only [encL]
            gi_wp2
            exact hK _ _ (Spares.refl _ _ _) hI rfl
          case body =>
            rintro l pre ⟨at', ln⟩ g a' W hW2 ⟨⟨hgq, v, rfl, hbw, hrow⟩, hBW, hne⟩ rfl hsp
            have hmem : ((at', ln) : Nat × ByteArray) ∈ ls := hsp.subset (List.mem_append_right _ List.mem_cons_self)
            have hlz : ln.size ≤ i + 1 := HLZ.out _ hmem
            have hpl : (fieldsOf pre).length + 1 ≤ i + 2 := by
              have h1 := hsp.length_le
              have h2 := HLL.out
              have h3 := fieldsOf_length pre
              rw [List.length_append, List.length_singleton] at h1
              omega
            have HF := Aside0.mk (fieldsOf_snoc pre (at', ln) hne)
            have HGQ := Aside0.mk hgq
            have HROW := Aside0.mk hrow
            have HBW := Aside0.mk hBW
            have HNE := Aside0.mk hne
            have HBX := Aside0.mk hbw
            rw [World.size_alloc] at hW2
            clear hgq hrow hBW hne hbw hsp hmem
            by_cases h0 : ln.size = 0
            · obtain rfl : ln = ⟨#[]⟩ := ByteArray.ext (Array.eq_empty_of_size_eq_zero h0)
              gi_wp2
              refine ⟨_, Spares.refl _ _ _, ⟨HGQ.out, v, rfl, HBX.out, ?_⟩, HBW.out, rfl, (show hasNil _ from ⟨(at', ⟨#[]⟩), List.mem_append_right _ List.mem_cons_self, rfl⟩)⟩
              rw [HF.out, if_pos h0, List.append_nil]
              exact HROW.out
            · obtain ⟨r3, hr3⟩ : ∃ r3 : Int, (if lineB ln = true then (0 : Int) else 2) = r3 := ⟨_, rfl⟩
              have HC := Aside0.mk (field_Parse.calls ln (parseF ln) (parseV ln) r3 W (hG.below HBW.out) (by rw [field_Parse_eq ln (by omega), hr3]))
              clear hr3
              have hne1 : (ln.toList == ([] : List UInt8)) = false := by
                rw [ByteArray.toList_eq, beq_eq_false_iff_ne]
                intro e
                apply h0
                rw [size_eq_length, e]; rfl
              have hne2 : (ln.toList = ([] : List UInt8)) = False := by simpa using hne1
              have hne3 : (ln = (⟨#[]⟩ : ByteArray)) = False := by
                refine eq_false ?_
                rintro rfl
                exact h0 rfl
              rw [if_neg h0] at HF
              gi_wp2
              refine ⟨trivial, (fun _ => by omega), ?_⟩
              refine (CallsIn.inRound l (callsIn_wide.2 HC.out)).mono ?_
              rintro e w2 ⟨rfl, b2⟩
              have HB2 := Aside0.mk b2
              have HX2 := Aside0.mk (show Boxed w2 w.heap.size 36 v from (b2.block _ HBX.out.lt).trans HBX.out)
              have HR2 := Aside0.mk (show w2.ownsRow w.heap.size 24 2 v (fieldsOf pre).length ((fieldsOf pre).flatMap encF) from own_move HROW.out (fun k hk => b2.block k (own_lt HROW.out k hk)))
              have hcl2 := (HX2.out.alloc (.cells #[.string (parseF ln), .string (parseV ln)] 24)).cell
              clear b2 HC HROW HBX
              gi_wp2_with (gi_at_builtin; refine halt ?_)
              refine unhalt ?_
              refine in_append w.heap.size rfl _ _ 36 24 (.agg #[(.string ⟨#[]⟩), (.string ⟨#[]⟩)]) 2 32 rfl Tryd.underlying36 info24 rfl (by decide) (by omega) v (fieldsOf pre).length ((fieldsOf pre).flatMap encF) [.string (parseF ln), .string (parseV ln)] rfl ?hx rfl ?one (HR2.out.alloc _) ?base ?lim ?_
              case hx => rw [World.size_alloc]; rfl
              case one =>
                intro u hu
                rcases List.mem_cons.1 hu with rfl | hu
                · rfl
                · rcases List.mem_singleton.1 hu with rfl
                  rfl
              case base =>
                rw [World.size_alloc]
                have := HBW.out.size
                have := HB2.out.size
                omega
              case lim => omega
              intro v1 w3 ho3 hg3 hat3
              obtain ⟨g', cap', rfl⟩ := ownsRow_succ ho3
              obtain ⟨hv1, hv2, hr2, hk2, hb2⟩ := collected (K := fun k => (w1.alloc (.cells #[.string (s.extract 0 (i + 1))] 9)).heap.size ≤ k ∨ (k < w.heap.size ∨ k = w1.heap.size)) (HX2.out.alloc _) (by decide) (HR2.out.alloc _) (by rw [World.size_alloc]; omega) (Nat.le_refl _) ho3 hg3 hat3
              have hc1 := hv1.cell
              have hf1 := hv1.frozen
              have HV2 := Aside0.mk hv2
              have HRR := Aside0.mk hr2
              have HK2 := Aside0.mk hk2
              have HB3 := Aside0.mk hb2
              clear hv1 hv2 hr2 hk2 hb2 ho3 hg3 hat3
              gi_wp2
              refine ⟨_, ((Spares.below HB2.out).trans (Spares.below (below_alloc (Below.refl _ _) _))).trans HK2.out, ⟨HK2.out.ge (n := w1.heap.size + 3) (by rw [World.size_alloc]; have := HB2.out.size; omega) HGQ.out, _, rfl, HV2.out, ?_⟩, (below_alloc (HBW.out.trans (HB2.out.mono HBW.out.size)) _).trans HB3.out, noNil_snoc HNE.out h0⟩
              rw [HF.out, List.length_append, List.flatMap_append]
              exact HRR.out
          case done =>
            rintro D ys g W hD rfl ⟨⟨hgq, v, rfl, hbw, hrow⟩, hBW, hne⟩ hK
            obtain ⟨a0, n0, c0, hv0⟩ := owns_slice hrow
            subst hv0
            rw [World.size_alloc] at hD
            obtain ⟨q1, q2, q3, q4⟩ := closed hbw (by decide) hrow (Nat.le_refl _) (by omega) hK
            have Q1 := Aside0.mk q1
            have Q2 := Aside0.mk q2
            have Q3 := Aside0.mk q3
            have Q4 := Aside0.mk (hBW.trans q4)
            have hcl := hbw.cell
            have hfz := hbw.frozen
            clear q1 q2 q3 q4 hrow hBW hbw hK hgq
            gi_wp2
            refine ⟨by simp, .inl ⟨_, _, rfl, run_takeDeferred Q1.out, ?_⟩⟩
            refine ⟨_, results_cell3 rfl _ _ _ ⟨w.heap.size, 0, none⟩ (.slice a0 n0 c0) rfl (run_isAgg_plain Tryd.underlying36 rfl _) Q2.out.cell, ?_⟩
            exact ⟨_, fieldsOf ys, _, _, rfl, HSR.out, row_of_owns k24 encF (fun _ => rfl) (fun _ x => k24_mkM _ _ _ x) Q3.out, Q4.out⟩
          case stop =>
            rintro D c pre g W hD hsp ⟨⟨hgq, v, rfl, hbw, hrow⟩, hBW, rfl, hz⟩ hK
            have HSS := Aside0.mk (show scanR s = (fieldsOf pre, ((i + 1 : Nat) : Int), 0) by
              obtain ⟨r, hr⟩ := hsp
              rw [HSR.out, ← hr, fieldsOf_prefix pre r hz])
            clear hsp hz
            obtain ⟨a0, n0, c0, hv0⟩ := owns_slice hrow
            subst hv0
            rw [World.size_alloc] at hD
            obtain ⟨q1, q2, q3, q4⟩ := closed hbw (by decide) hrow (Nat.le_refl _) (by omega) hK
            have Q1 := Aside0.mk q1
            have Q2 := Aside0.mk q2
            have Q3 := Aside0.mk q3
            have Q4 := Aside0.mk (hBW.trans q4)
            have hcl := hbw.cell
            have hfz := hbw.frozen
            clear q1 q2 q3 q4 hrow hBW hbw hK hgq
            gi_wp2
            refine ⟨by simp, .inl ⟨_, _, rfl, run_takeDeferred Q1.out, ?_⟩⟩
            refine ⟨_, results_cell3 rfl _ _ _ ⟨w.heap.size, 0, none⟩ (.slice a0 n0 c0) rfl (run_isAgg_plain Tryd.underlying36 rfl _) Q2.out.cell, ?_⟩
            exact ⟨_, fieldsOf pre, _, _, rfl, HSS.out, row_of_owns k24 encF (fun _ => rfl) (fun _ x => k24_mkM _ _ _ x) Q3.out, Q4.out⟩
        · have HP := Aside0.mk (hE.out.trans (scanP_on k s i st nx hlt HQ.out h5))
          clear hE HQ
          gi_wp2
          go_roundw
          case rel => exact ⟨i + 1, k, nx, by omega, by omega, congrArg (Value.int IntKind.i64) (by omega), rfl, h5, HP, X1, B1⟩
          case measure => simp [intOf]; omega
    · have hie : i = s.size := by omega
      subst hie
      have HP := Aside0.mk (hE.out.trans (scanP_end k s st))
      have hcl := hbx.out.cell
      have hfz := hbx.out.frozen
      clear hE
      gi_wp2
      refine ⟨_, results_cell3 rfl _ _ _ ⟨w.heap.size, 0, none⟩ (.slice none 0 0) rfl (run_isAgg_plain Tryd.underlying36 rfl _) (hbx.out.set _).cell, ?_⟩
      exact ⟨_, [], _, _, rfl, scanR_bad HP.out (by decide), Kd.R_nil _ _ _ _ _, hb.out.setCell (p := ⟨w.heap.size, 0, none⟩) (Nat.le_refl _) _⟩
def block_Scan.f (a0 : ByteArray) : Option ((List S24) × Int × Int) := if a0.size < 4000000000 then some (scanR a0) else none
theorem block_Scan.calls (a0 : ByteArray) (r1 : List S24) (r2 : Int) (r3 : Int) (w : World) (hG : TabOk w) (h : block_Scan.f a0 = some (r1, r2, r3)) :
    Calls Tryd.prog 31 #[.string a0] w fun e w' => ∃ v0_ : Value, e = .returned (.tuple #[v0_, .int .i64 r2, .int .i64 r3]) ∧ Kd.R k24 24 w' w.heap.size (fun _ => True) v0_ r1 ∧ Below w.heap.size w w' := by
  unfold block_Scan.f at h
  split at h
  · rename_i hs
    injection h with h
    refine (callsIn_wide.1 (scan_in 4 (Nat.le_refl _) a0 hs w hG)).mono ?_
    rintro e w' ⟨v, l, i, er, rfl, hr, hR, hb⟩
    rw [h] at hr
    cases hr
    exact ⟨v, rfl, hR, hb⟩
  · cases h
end Go.Proofs.YtdkecmjoenfjdaaDoorH
end
section
namespace Go.Proofs.YtdkecmjoenfjdaaDoor.Pr
open Go.RowKit Go.Proofs.YtdkecmjoenfjdaaDoorH Go.Proofs.YtdkecmjoenfjdaaDoorW.PrintWords Go.Proofs.YtdkecmjoenfjdaaDoorW.PrintLast Go.Proofs.YtdkecmjoenfjdaaDoorW.PrintMore
attribute [local go_sem] max2_int min2_int max_two min_two max_three min_three max_four min_four   -- for this text's walks alone
set_option linter.unusedVariables false
set_option linter.unusedSimpArgs false
def catchpitlaw06_wakes.f  : Option (Bool) := (block_Scan.f (⟨#[97, 58, 32, 49, 13, 10, 13, 10, 120]⟩ : ByteArray)).bind fun bt293 => ((block_Scan.f (⟨#[97, 32, 98]⟩ : ByteArray)).bind fun bt298 => (if (bt293.1.length : Int) = 1 then (if bt293.2.1 = 8 then (if bt293.2.2 = 0 then (if bt298.2.1 = 1 then (some (bt298.2.2 == 2)) else (some false)) else (some false)) else (some false)) else (some false)))
set_option maxHeartbeats 8000000 in
set_option maxRecDepth 100000 in
theorem catchpitlaw06_wakes.calls  (r : Bool) (w : World) (hG : TabOk w) (h : catchpitlaw06_wakes.f  = some r) :
    Calls Tryd.prog 30 #[] w fun e w' => e = .returned (.bool r) ∧ Below w.heap.size w w' := by
  have HB := Aside0.mk (Below.refl w.heap.size w)
  have H : ((block_Scan.f (⟨#[97, 58, 32, 49, 13, 10, 13, 10, 120]⟩ : ByteArray)).bind fun bt293 => ((block_Scan.f (⟨#[97, 32, 98]⟩ : ByteArray)).bind fun bt298 => (if (bt293.1.length : Int) = 1 then (if bt293.2.1 = 8 then (if bt293.2.2 = 0 then (if bt298.2.1 = 1 then (some (bt298.2.2 == 2)) else (some false)) else (some false)) else (some false)) else (some false)))) = some r := h
  clear h
  replace H := Option.bind_eq_some_iff.mp H
  obtain ⟨⟨t293, t294, t295⟩, A10, H⟩ := H
  replace H : ((block_Scan.f (⟨#[97, 32, 98]⟩ : ByteArray)).bind fun bt298 => (if (t293.length : Int) = 1 then (if t294 = 8 then (if t295 = 0 then (if bt298.2.1 = 1 then (some (bt298.2.2 == 2)) else (some false)) else (some false)) else (some false)) else (some false))) = some r := H
  have A1 := Aside0.mk A10
  clear A10
  replace H := Option.bind_eq_some_iff.mp H
  obtain ⟨⟨t298, t299, t300⟩, A20, H⟩ := H
  replace H : (if (t293.length : Int) = 1 then (if t294 = 8 then (if t295 = 0 then (if t299 = 1 then (some (t300 == 2)) else (some false)) else (some false)) else (some false)) else (some false)) = some r := H
  have A2 := Aside0.mk A20
  clear A20
  by_cases c3 : (t293.length : Int) = 1
  · rw [if_pos c3] at H
    have c3b0 : ((t293.length : Int) == 1) = true := beq_iff_eq.mpr c3
    have c3b1 : ((t293.length : Int) != 1) = false := bne_eq_false_iff_eq.mpr c3
    clear c3
    by_cases c4 : t294 = 8
    · rw [if_pos c4] at H
      have c4b0 : (t294 == 8) = true := beq_iff_eq.mpr c4
      have c4b1 : (t294 != 8) = false := bne_eq_false_iff_eq.mpr c4
      clear c4
      by_cases c5 : t295 = 0
      · rw [if_pos c5] at H
        have c5b0 : (t295 == 0) = true := beq_iff_eq.mpr c5
        have c5b1 : (t295 != 0) = false := bne_eq_false_iff_eq.mpr c5
        clear c5
        by_cases c6 : t299 = 1
        · rw [if_pos c6] at H
          have c6b0 : (t299 == 1) = true := beq_iff_eq.mpr c6
          have c6b1 : (t299 != 1) = false := bne_eq_false_iff_eq.mpr c6
          clear c6
          obtain rfl := Option.some.inj H
          go_enter Tryd.func30, Tryd.ntmps30
          go_wp2_with (first | ((with_reducible refine gate_callee (f := 31) rfl ?_); refine goesL_ (some 8) rfl rfl Tryd.func31 (by kernel_rfl) rfl #[.string (⟨#[97, 58, 32, 49, 13, 10, 13, 10, 120]⟩ : ByteArray)] rfl (by (try simp only [List.map_toArray, List.map_cons, List.map_nil]); first | done | rfl | (simp only [List.length_drop, List.length_take]; rfl)) ?_; (with_reducible refine (block_Scan.calls (⟨#[97, 58, 32, 49, 13, 10, 13, 10, 120]⟩ : ByteArray) t293 t294 t295 _ ?side1 A1.out).mono ?_); (case side1 => first | exact hG | exact TabOk.drewN hG _ | exact TabOk.drewN (TabOk.drewN hG _) _ | exact TabOk.below hG (by repeat (first | (with_reducible first | exact HB.out | apply below_alloc | apply pw_below_drewN | apply below_drew1) | exact HB.out))); rintro e w7 ⟨v296, rfl, ho0, hb⟩; refine ⟨_, rfl, ?_⟩; have n0_ := Aside0.mk (Kd.R_lower ho0 (below_size (by repeat (first | (with_reducible first | exact HB.out | apply below_alloc | apply pw_below_drewN | apply below_drew1) | exact HB.out)))); have n1_ := Aside0.mk (below_step (by repeat (first | (with_reducible first | exact HB.out | apply below_alloc | apply pw_below_drewN | apply below_drew1) | exact HB.out)) hb); clear HB; have HO297 := n0_; have HB := n1_; clear n0_ n1_; (try clear hb); (try clear hb2); (try clear hk); (try clear hi); (try clear ho0)) | ((with_reducible refine gate_callee (f := 31) rfl ?_); refine goesL_ (some 13) rfl rfl Tryd.func31 (by kernel_rfl) rfl #[.string (⟨#[97, 32, 98]⟩ : ByteArray)] rfl (by (try simp only [List.map_toArray, List.map_cons, List.map_nil]); first | done | rfl | (simp only [List.length_drop, List.length_take]; rfl)) ?_; (with_reducible refine (block_Scan.calls (⟨#[97, 32, 98]⟩ : ByteArray) t298 t299 t300 _ ?side1 A2.out).mono ?_); (case side1 => first | exact hG | exact TabOk.drewN hG _ | exact TabOk.drewN (TabOk.drewN hG _) _ | exact TabOk.below hG (by repeat (first | (with_reducible first | exact HB.out | apply below_alloc | apply pw_below_drewN | apply below_drew1) | exact HB.out))); rintro e w8 ⟨v301, rfl, ho0, hb⟩; refine ⟨_, rfl, ?_⟩; have n0_ := Aside0.mk (Kd.R_elder' (by (with_reducible repeat (first | apply Kd.R_alloc | apply Kd.R_drewN | apply Kd.R_drew)); exact HO297.out) (Kd.R_base ho0) hb); have n1_ := Aside0.mk (Kd.R_lower (Kd.R_new' ho0 (Kd.R_lt (by (with_reducible repeat (first | apply Kd.R_alloc | apply Kd.R_drewN | apply Kd.R_drew)); exact HO297.out))) (below_size (by repeat (first | (with_reducible first | exact HB.out | apply below_alloc | apply pw_below_drewN | apply below_drew1) | exact HB.out)))); have n2_ := Aside0.mk (below_step (by repeat (first | (with_reducible first | exact HB.out | apply below_alloc | apply pw_below_drewN | apply below_drew1) | exact HB.out)) hb); clear HO297; clear HB; have HO297 := n0_; have HO302 := n1_; have HB := n2_; clear n0_ n1_ n2_; (try clear hb); (try clear hb2); (try clear hk); (try clear hi); (try clear ho0); obtain ⟨Ao9, co9, eo9⟩ := Kd.R_slice HO297.out; subst eo9))
          go_ret
          exact ⟨by first | rfl | (simp [errW_none, errW_some] <;> rfl) | (simp [*, errW_none, errW_some] <;> rfl), by repeat (first | (with_reducible first | exact HB.out | apply below_alloc | apply pw_below_drewN | apply below_drew1) | exact HB.out)⟩
        · rw [if_neg c6] at H
          have c6b0 : (t299 == 1) = false := beq_eq_false_iff_ne.mpr c6
          have c6b1 : (t299 != 1) = true := bne_iff_ne.mpr c6
          obtain rfl := Option.some.inj H
          go_enter Tryd.func30, Tryd.ntmps30
          go_wp2_with (first | ((with_reducible refine gate_callee (f := 31) rfl ?_); refine goesL_ (some 8) rfl rfl Tryd.func31 (by kernel_rfl) rfl #[.string (⟨#[97, 58, 32, 49, 13, 10, 13, 10, 120]⟩ : ByteArray)] rfl (by (try simp only [List.map_toArray, List.map_cons, List.map_nil]); first | done | rfl | (simp only [List.length_drop, List.length_take]; rfl)) ?_; (with_reducible refine (block_Scan.calls (⟨#[97, 58, 32, 49, 13, 10, 13, 10, 120]⟩ : ByteArray) t293 t294 t295 _ ?side1 A1.out).mono ?_); (case side1 => first | exact hG | exact TabOk.drewN hG _ | exact TabOk.drewN (TabOk.drewN hG _) _ | exact TabOk.below hG (by repeat (first | (with_reducible first | exact HB.out | apply below_alloc | apply pw_below_drewN | apply below_drew1) | exact HB.out))); rintro e w10 ⟨v296, rfl, ho0, hb⟩; refine ⟨_, rfl, ?_⟩; have n0_ := Aside0.mk (Kd.R_lower ho0 (below_size (by repeat (first | (with_reducible first | exact HB.out | apply below_alloc | apply pw_below_drewN | apply below_drew1) | exact HB.out)))); have n1_ := Aside0.mk (below_step (by repeat (first | (with_reducible first | exact HB.out | apply below_alloc | apply pw_below_drewN | apply below_drew1) | exact HB.out)) hb); clear HB; have HO297 := n0_; have HB := n1_; clear n0_ n1_; (try clear hb); (try clear hb2); (try clear hk); (try clear hi); (try clear ho0)) | ((with_reducible refine gate_callee (f := 31) rfl ?_); refine goesL_ (some 13) rfl rfl Tryd.func31 (by kernel_rfl) rfl #[.string (⟨#[97, 32, 98]⟩ : ByteArray)] rfl (by (try simp only [List.map_toArray, List.map_cons, List.map_nil]); first | done | rfl | (simp only [List.length_drop, List.length_take]; rfl)) ?_; (with_reducible refine (block_Scan.calls (⟨#[97, 32, 98]⟩ : ByteArray) t298 t299 t300 _ ?side1 A2.out).mono ?_); (case side1 => first | exact hG | exact TabOk.drewN hG _ | exact TabOk.drewN (TabOk.drewN hG _) _ | exact TabOk.below hG (by repeat (first | (with_reducible first | exact HB.out | apply below_alloc | apply pw_below_drewN | apply below_drew1) | exact HB.out))); rintro e w11 ⟨v301, rfl, ho0, hb⟩; refine ⟨_, rfl, ?_⟩; have n0_ := Aside0.mk (Kd.R_elder' (by (with_reducible repeat (first | apply Kd.R_alloc | apply Kd.R_drewN | apply Kd.R_drew)); exact HO297.out) (Kd.R_base ho0) hb); have n1_ := Aside0.mk (Kd.R_lower (Kd.R_new' ho0 (Kd.R_lt (by (with_reducible repeat (first | apply Kd.R_alloc | apply Kd.R_drewN | apply Kd.R_drew)); exact HO297.out))) (below_size (by repeat (first | (with_reducible first | exact HB.out | apply below_alloc | apply pw_below_drewN | apply below_drew1) | exact HB.out)))); have n2_ := Aside0.mk (below_step (by repeat (first | (with_reducible first | exact HB.out | apply below_alloc | apply pw_below_drewN | apply below_drew1) | exact HB.out)) hb); clear HO297; clear HB; have HO297 := n0_; have HO302 := n1_; have HB := n2_; clear n0_ n1_ n2_; (try clear hb); (try clear hb2); (try clear hk); (try clear hi); (try clear ho0); obtain ⟨Ao12, co12, eo12⟩ := Kd.R_slice HO297.out; subst eo12))
          go_ret
          exact ⟨by first | rfl | (simp [errW_none, errW_some] <;> rfl) | (simp [*, errW_none, errW_some] <;> rfl), by repeat (first | (with_reducible first | exact HB.out | apply below_alloc | apply pw_below_drewN | apply below_drew1) | exact HB.out)⟩
      · rw [if_neg c5] at H
        have c5b0 : (t295 == 0) = false := beq_eq_false_iff_ne.mpr c5
        have c5b1 : (t295 != 0) = true := bne_iff_ne.mpr c5
        obtain rfl := Option.some.inj H
        go_enter Tryd.func30, Tryd.ntmps30
        go_wp2_with (first | ((with_reducible refine gate_callee (f := 31) rfl ?_); refine goesL_ (some 8) rfl rfl Tryd.func31 (by kernel_rfl) rfl #[.string (⟨#[97, 58, 32, 49, 13, 10, 13, 10, 120]⟩ : ByteArray)] rfl (by (try simp only [List.map_toArray, List.map_cons, List.map_nil]); first | done | rfl | (simp only [List.length_drop, List.length_take]; rfl)) ?_; (with_reducible refine (block_Scan.calls (⟨#[97, 58, 32, 49, 13, 10, 13, 10, 120]⟩ : ByteArray) t293 t294 t295 _ ?side1 A1.out).mono ?_); (case side1 => first | exact hG | exact TabOk.drewN hG _ | exact TabOk.drewN (TabOk.drewN hG _) _ | exact TabOk.below hG (by repeat (first | (with_reducible first | exact HB.out | apply below_alloc | apply pw_below_drewN | apply below_drew1) | exact HB.out))); rintro e w13 ⟨v296, rfl, ho0, hb⟩; refine ⟨_, rfl, ?_⟩; have n0_ := Aside0.mk (Kd.R_lower ho0 (below_size (by repeat (first | (with_reducible first | exact HB.out | apply below_alloc | apply pw_below_drewN | apply below_drew1) | exact HB.out)))); have n1_ := Aside0.mk (below_step (by repeat (first | (with_reducible first | exact HB.out | apply below_alloc | apply pw_below_drewN | apply below_drew1) | exact HB.out)) hb); clear HB; have HO297 := n0_; have HB := n1_; clear n0_ n1_; (try clear hb); (try clear hb2); (try clear hk); (try clear hi); (try clear ho0)) | ((with_reducible refine gate_callee (f := 31) rfl ?_); refine goesL_ (some 13) rfl rfl Tryd.func31 (by kernel_rfl) rfl #[.string (⟨#[97, 32, 98]⟩ : ByteArray)] rfl (by (try simp only [List.map_toArray, List.map_cons, List.map_nil]); first | done | rfl | (simp only [List.length_drop, List.length_take]; rfl)) ?_; (with_reducible refine (block_Scan.calls (⟨#[97, 32, 98]⟩ : ByteArray) t298 t299 t300 _ ?side1 A2.out).mono ?_); (case side1 => first | exact hG | exact TabOk.drewN hG _ | exact TabOk.drewN (TabOk.drewN hG _) _ | exact TabOk.below hG (by repeat (first | (with_reducible first | exact HB.out | apply below_alloc | apply pw_below_drewN | apply below_drew1) | exact HB.out))); rintro e w14 ⟨v301, rfl, ho0, hb⟩; refine ⟨_, rfl, ?_⟩; have n0_ := Aside0.mk (Kd.R_elder' (by (with_reducible repeat (first | apply Kd.R_alloc | apply Kd.R_drewN | apply Kd.R_drew)); exact HO297.out) (Kd.R_base ho0) hb); have n1_ := Aside0.mk (Kd.R_lower (Kd.R_new' ho0 (Kd.R_lt (by (with_reducible repeat (first | apply Kd.R_alloc | apply Kd.R_drewN | apply Kd.R_drew)); exact HO297.out))) (below_size (by repeat (first | (with_reducible first | exact HB.out | apply below_alloc | apply pw_below_drewN | apply below_drew1) | exact HB.out)))); have n2_ := Aside0.mk (below_step (by repeat (first | (with_reducible first | exact HB.out | apply below_alloc | apply pw_below_drewN | apply below_drew1) | exact HB.out)) hb); clear HO297; clear HB; have HO297 := n0_; have HO302 := n1_; have HB := n2_; clear n0_ n1_ n2_; (try clear hb); (try clear hb2); (try clear hk); (try clear hi); (try clear ho0); obtain ⟨Ao15, co15, eo15⟩ := Kd.R_slice HO297.out; subst eo15))
        go_ret
        exact ⟨by first | rfl | (simp [errW_none, errW_some] <;> rfl) | (simp [*, errW_none, errW_some] <;> rfl), by repeat (first | (with_reducible first | exact HB.out | apply below_alloc | apply pw_below_drewN | apply below_drew1) | exact HB.out)⟩
    · rw [if_neg c4] at H
      have c4b0 : (t294 == 8) = false := beq_eq_false_iff_ne.mpr c4
      have c4b1 : (t294 != 8) = true := bne_iff_ne.mpr c4
      obtain rfl := Option.some.inj H
      go_enter Tryd.func30, Tryd.ntmps30
      go_wp2_with (first | ((with_reducible refine gate_callee (f := 31) rfl ?_); refine goesL_ (some 8) rfl rfl Tryd.func31 (by kernel_rfl) rfl #[.string (⟨#[97, 58, 32, 49, 13, 10, 13, 10, 120]⟩ : ByteArray)] rfl (by (try simp only [List.map_toArray, List.map_cons, List.map_nil]); first | done | rfl | (simp only [List.length_drop, List.length_take]; rfl)) ?_; (with_reducible refine (block_Scan.calls (⟨#[97, 58, 32, 49, 13, 10, 13, 10, 120]⟩ : ByteArray) t293 t294 t295 _ ?side1 A1.out).mono ?_); (case side1 => first | exact hG | exact TabOk.drewN hG _ | exact TabOk.drewN (TabOk.drewN hG _) _ | exact TabOk.below hG (by repeat (first | (with_reducible first | exact HB.out | apply below_alloc | apply pw_below_drewN | apply below_drew1) | exact HB.out))); rintro e w16 ⟨v296, rfl, ho0, hb⟩; refine ⟨_, rfl, ?_⟩; have n0_ := Aside0.mk (Kd.R_lower ho0 (below_size (by repeat (first | (with_reducible first | exact HB.out | apply below_alloc | apply pw_below_drewN | apply below_drew1) | exact HB.out)))); have n1_ := Aside0.mk (below_step (by repeat (first | (with_reducible first | exact HB.out | apply below_alloc | apply pw_below_drewN | apply below_drew1) | exact HB.out)) hb); clear HB; have HO297 := n0_; have HB := n1_; clear n0_ n1_; (try clear hb); (try clear hb2); (try clear hk); (try clear hi); (try clear ho0)) | ((with_reducible refine gate_callee (f := 31) rfl ?_); refine goesL_ (some 13) rfl rfl Tryd.func31 (by kernel_rfl) rfl #[.string (⟨#[97, 32, 98]⟩ : ByteArray)] rfl (by (try simp only [List.map_toArray, List.map_cons, List.map_nil]); first | done | rfl | (simp only [List.length_drop, List.length_take]; rfl)) ?_; (with_reducible refine (block_Scan.calls (⟨#[97, 32, 98]⟩ : ByteArray) t298 t299 t300 _ ?side1 A2.out).mono ?_); (case side1 => first | exact hG | exact TabOk.drewN hG _ | exact TabOk.drewN (TabOk.drewN hG _) _ | exact TabOk.below hG (by repeat (first | (with_reducible first | exact HB.out | apply below_alloc | apply pw_below_drewN | apply below_drew1) | exact HB.out))); rintro e w17 ⟨v301, rfl, ho0, hb⟩; refine ⟨_, rfl, ?_⟩; have n0_ := Aside0.mk (Kd.R_elder' (by (with_reducible repeat (first | apply Kd.R_alloc | apply Kd.R_drewN | apply Kd.R_drew)); exact HO297.out) (Kd.R_base ho0) hb); have n1_ := Aside0.mk (Kd.R_lower (Kd.R_new' ho0 (Kd.R_lt (by (with_reducible repeat (first | apply Kd.R_alloc | apply Kd.R_drewN | apply Kd.R_drew)); exact HO297.out))) (below_size (by repeat (first | (with_reducible first | exact HB.out | apply below_alloc | apply pw_below_drewN | apply below_drew1) | exact HB.out)))); have n2_ := Aside0.mk (below_step (by repeat (first | (with_reducible first | exact HB.out | apply below_alloc | apply pw_below_drewN | apply below_drew1) | exact HB.out)) hb); clear HO297; clear HB; have HO297 := n0_; have HO302 := n1_; have HB := n2_; clear n0_ n1_ n2_; (try clear hb); (try clear hb2); (try clear hk); (try clear hi); (try clear ho0); obtain ⟨Ao18, co18, eo18⟩ := Kd.R_slice HO297.out; subst eo18))
      go_ret
      exact ⟨by first | rfl | (simp [errW_none, errW_some] <;> rfl) | (simp [*, errW_none, errW_some] <;> rfl), by repeat (first | (with_reducible first | exact HB.out | apply below_alloc | apply pw_below_drewN | apply below_drew1) | exact HB.out)⟩
  · rw [if_neg c3] at H
    have c3b0 : ((t293.length : Int) == 1) = false := beq_eq_false_iff_ne.mpr c3
    have c3b1 : ((t293.length : Int) != 1) = true := bne_iff_ne.mpr c3
    obtain rfl := Option.some.inj H
    go_enter Tryd.func30, Tryd.ntmps30
    go_wp2_with (first | ((with_reducible refine gate_callee (f := 31) rfl ?_); refine goesL_ (some 8) rfl rfl Tryd.func31 (by kernel_rfl) rfl #[.string (⟨#[97, 58, 32, 49, 13, 10, 13, 10, 120]⟩ : ByteArray)] rfl (by (try simp only [List.map_toArray, List.map_cons, List.map_nil]); first | done | rfl | (simp only [List.length_drop, List.length_take]; rfl)) ?_; (with_reducible refine (block_Scan.calls (⟨#[97, 58, 32, 49, 13, 10, 13, 10, 120]⟩ : ByteArray) t293 t294 t295 _ ?side1 A1.out).mono ?_); (case side1 => first | exact hG | exact TabOk.drewN hG _ | exact TabOk.drewN (TabOk.drewN hG _) _ | exact TabOk.below hG (by repeat (first | (with_reducible first | exact HB.out | apply below_alloc | apply pw_below_drewN | apply below_drew1) | exact HB.out))); rintro e w19 ⟨v296, rfl, ho0, hb⟩; refine ⟨_, rfl, ?_⟩; have n0_ := Aside0.mk (Kd.R_lower ho0 (below_size (by repeat (first | (with_reducible first | exact HB.out | apply below_alloc | apply pw_below_drewN | apply below_drew1) | exact HB.out)))); have n1_ := Aside0.mk (below_step (by repeat (first | (with_reducible first | exact HB.out | apply below_alloc | apply pw_below_drewN | apply below_drew1) | exact HB.out)) hb); clear HB; have HO297 := n0_; have HB := n1_; clear n0_ n1_; (try clear hb); (try clear hb2); (try clear hk); (try clear hi); (try clear ho0)) | ((with_reducible refine gate_callee (f := 31) rfl ?_); refine goesL_ (some 13) rfl rfl Tryd.func31 (by kernel_rfl) rfl #[.string (⟨#[97, 32, 98]⟩ : ByteArray)] rfl (by (try simp only [List.map_toArray, List.map_cons, List.map_nil]); first | done | rfl | (simp only [List.length_drop, List.length_take]; rfl)) ?_; (with_reducible refine (block_Scan.calls (⟨#[97, 32, 98]⟩ : ByteArray) t298 t299 t300 _ ?side1 A2.out).mono ?_); (case side1 => first | exact hG | exact TabOk.drewN hG _ | exact TabOk.drewN (TabOk.drewN hG _) _ | exact TabOk.below hG (by repeat (first | (with_reducible first | exact HB.out | apply below_alloc | apply pw_below_drewN | apply below_drew1) | exact HB.out))); rintro e w20 ⟨v301, rfl, ho0, hb⟩; refine ⟨_, rfl, ?_⟩; have n0_ := Aside0.mk (Kd.R_elder' (by (with_reducible repeat (first | apply Kd.R_alloc | apply Kd.R_drewN | apply Kd.R_drew)); exact HO297.out) (Kd.R_base ho0) hb); have n1_ := Aside0.mk (Kd.R_lower (Kd.R_new' ho0 (Kd.R_lt (by (with_reducible repeat (first | apply Kd.R_alloc | apply Kd.R_drewN | apply Kd.R_drew)); exact HO297.out))) (below_size (by repeat (first | (with_reducible first | exact HB.out | apply below_alloc | apply pw_below_drewN | apply below_drew1) | exact HB.out)))); have n2_ := Aside0.mk (below_step (by repeat (first | (with_reducible first | exact HB.out | apply below_alloc | apply pw_below_drewN | apply below_drew1) | exact HB.out)) hb); clear HO297; clear HB; have HO297 := n0_; have HO302 := n1_; have HB := n2_; clear n0_ n1_ n2_; (try clear hb); (try clear hb2); (try clear hk); (try clear hi); (try clear ho0); obtain ⟨Ao21, co21, eo21⟩ := Kd.R_slice HO297.out; subst eo21))
    go_ret
    exact ⟨by first | rfl | (simp [errW_none, errW_some] <;> rfl) | (simp [*, errW_none, errW_some] <;> rfl), by repeat (first | (with_reducible first | exact HB.out | apply below_alloc | apply pw_below_drewN | apply below_drew1) | exact HB.out)⟩
end Go.Proofs.YtdkecmjoenfjdaaDoor.Pr
end
section
namespace Go.Proofs.YtdkecmjoenfjdaaDoorH
open Go.RowKit Go.Proofs.YtdkecmjoenfjdaaDoorW.PrintWords Go.Proofs.YtdkecmjoenfjdaaDoorW.PrintLast Go.Proofs.YtdkecmjoenfjdaaDoorW.PrintMore Go.Proofs.YtdkecmjoenfjdaaDoor.Pr
def linesL : List Fld → List UInt8
  | [] => []
  | x :: l => (putS x.f0 x.f1).data.toList ++ ([13, 10] ++ linesL l)
theorem linesL_append : ∀ a b : List Fld, linesL (a ++ b) = linesL a ++ linesL b
  | [], b => rfl
  | x :: a, b => by
    rw [List.cons_append, linesL, linesL_append a b, linesL]
    simp
theorem linesL_length : ∀ l : List Fld, (linesL l).length ≤ 4 * sumF l
  | [] => Nat.le_refl _
  | x :: l => by
    have h1 := linesL_length l
    have h2 := putS_size x.f0 x.f1
    rw [linesL, sumF_cons, List.length_append, List.length_append, ← size_eq_length]
    simp only [List.length_cons, List.length_nil]
    omega
def allRight (l : List Fld) : Bool := l.all fun x => rightB x.f0 x.f1
theorem allRight_step (l : List Fld) (k : Nat) (h : k < l.length) : allRight (l.take (k + 1)) = (allRight (l.take k) && rightB (l.getD k z24).f0 (l.getD k z24).f1) := by
  rw [take_one l z24 k h]
  unfold allRight
  rw [List.all_append]
  simp
theorem allRight_not (l : List Fld) (x : Fld) (h : x ∈ l) (hr : rightB x.f0 x.f1 = false) : allRight l = false := by
  unfold allRight
  rw [List.all_eq_false]
  exact ⟨x, h, by simp [hr]⟩
theorem sumF_take (l : List Fld) (k : Nat) : sumF (l.take k) ≤ sumF l := by
  have : sumF l = sumF (l.take k) + sumF (l.drop k) := by
    unfold sumF
    rw [← List.sum_append, ← List.map_append, List.take_append_drop]
  omega
def sectL (l : List Fld) : ByteArray := ⟨(linesL l ++ [13, 10]).toArray⟩
def putR (l : List Fld) : ByteArray × Int := if allRight l then (sectL l, 0) else (⟨#[]⟩, 1)
def block_Put.f (l0 : List Fld) : Option (ByteArray × Int) := if (l0.all fun x => decide (x.f0.size ≤ 140737488351232 ∧ x.f1.size ≤ 140737488351232)) && decide (sumF l0 ≤ 1000000) then some (putR l0) else none
end Go.Proofs.YtdkecmjoenfjdaaDoorH
end
section
namespace Go.Proofs.YtdkecmjoenfjdaaDoor.Pr
open Go.RowKit Go.Proofs.YtdkecmjoenfjdaaDoorH Go.Proofs.YtdkecmjoenfjdaaDoorW.PrintWords Go.Proofs.YtdkecmjoenfjdaaDoorW.PrintLast Go.Proofs.YtdkecmjoenfjdaaDoorW.PrintMore
attribute [local go_sem] max2_int min2_int max_two min_two max_three min_three max_four min_four   -- for this text's walks alone
set_option linter.unusedVariables false
set_option linter.unusedSimpArgs false
def catchpitref06_Put.l0 : Nat → List (S24) → ByteArray → Int → Option (ByteArray × Bool)
  | 0, _, _, _ => none
  | k + 1, x0, x4, x5 => if x5 < (x0.length : Int) then (if 0 ≤ x5 then ((catchpitref05_Right.f k ((rd_T24 x0 x5).f0) ((rd_T24 x0 x5).f1)).bind fun t329 => (if t329 = true then ((catchpitref05_Put.f ((rd_T24 x0 x5).f0) ((rd_T24 x0 x5).f1)).bind fun t331 => (if x4.size + t331.size ≤ 9223372036854775807 then (if (x4 ++ t331).size + 2 ≤ 9223372036854775807 then (catchpitref06_Put.l0 k x0 ((x4 ++ t331) ++ (⟨#[13, 10]⟩ : ByteArray)) (wrap64 (x5 + 1))) else (none)) else (none))) else (some ((⟨#[]⟩ : ByteArray), false)))) else (none)) else (if x4.size + 2 ≤ 9223372036854775807 then (some (x4 ++ (⟨#[13, 10]⟩ : ByteArray), true)) else (none))
def catchpitref06_Put.f (k : Nat) (l0 : List (S24)) : Option (ByteArray × Bool) := catchpitref06_Put.l0 k l0 (⟨#[]⟩ : ByteArray) 0
theorem catchpitref06_Put.mono_l : ∀ k, (∀ y0 y1 y2, LeO (catchpitref06_Put.l0 k y0 y1 y2) (catchpitref06_Put.l0 (k + 1) y0 y1 y2))
  | 0 => fun _ _ _ r h => by simp [catchpitref06_Put.l0] at h
  | k + 1 => by
    have ih0 := catchpitref06_Put.mono_l k
    · intro y0 y1 y2
      unfold catchpitref06_Put.l0
      repeat' first
      | (with_reducible exact ih0 _ _ _)
      | (with_reducible exact catchpitref05_Right.mono _ _ _)
      | (with_reducible exact LeO.refl _)
      | (with_reducible exact LeO.none _)
      | (with_reducible refine LeO.ite ?_ ?_)
      | (with_reducible refine LeO.bind ?_ (fun _ => ?_))
      | exact ih0 _ _ _
      | exact catchpitref05_Right.mono _ _ _
      | exact LeO.none _
      | refine LeO.ite ?_ ?_
      | refine LeO.bind ?_ (fun _ => ?_)
theorem catchpitref06_Put.mono : ∀ a0 k, LeO (catchpitref06_Put.f k a0) (catchpitref06_Put.f (k + 1) a0) := by
  intro a0 k
  have ih0 := catchpitref06_Put.mono_l k
  unfold catchpitref06_Put.f
  repeat' first
      | (with_reducible exact ih0 _ _ _)
      | (with_reducible exact catchpitref05_Right.mono _ _ _)
      | (with_reducible exact LeO.refl _)
      | (with_reducible exact LeO.none _)
      | (with_reducible refine LeO.ite ?_ ?_)
      | (with_reducible refine LeO.bind ?_ (fun _ => ?_))
      | exact ih0 _ _ _
      | exact catchpitref05_Right.mono _ _ _
      | exact LeO.none _
      | refine LeO.ite ?_ ?_
      | refine LeO.bind ?_ (fun _ => ?_)
set_option maxHeartbeats 8000000 in
set_option maxRecDepth 100000 in
theorem catchpitref06_Put.calls (k : Nat) (A0 : Option Addr) (c0 : Nat) (l0 : List (S24)) (r1 : ByteArray) (r2 : Bool) (w : World) (hr0 : Kd.C k24 w A0 l0.length l0) (hc0 : l0.length ≤ c0) (hG : TabOk w) (h : catchpitref06_Put.f k l0 = some (r1, r2)) :
    Calls Tryd.prog 33 #[.slice A0 l0.length c0] w fun e w' => e = .returned (.tuple #[.string r1, .bool r2]) ∧ Below w.heap.size w w' := by
  have hu24 := Tryd.underlying24
  have HR0 := Aside0.mk hr0
  have HC0 := Aside0.mk hc0
  clear hr0 hc0
  have HB := Aside0.mk (Below.refl w.heap.size w)
  have H : (catchpitref06_Put.l0 k l0 (⟨#[]⟩ : ByteArray) 0) = some (r1, r2) := h
  clear h
  have H' := Aside0.mk H
  clear H
  go_enter Tryd.func33, Tryd.ntmps33
  go_wp2
  go_loopg [4, 5] k (fun kq v4 v5 w' => ∃ (x4_1 : ByteArray) (x5_1 : Int), v4 = .string x4_1 ∧ v5 = .int .i64 x5_1 ∧ Aside0 (catchpitref06_Put.l0 kq l0 x4_1 x5_1 = some (r1, r2)) ∧ Aside0 (kq ≤ k) ∧ Aside0 (Below w.heap.size w w'))
  case atStart => exact ⟨((⟨#[]⟩ : ByteArray)), (0), (by first | rfl | (simp; done) | (simp [*]; done)), (by first | rfl | (simp; done) | (simp [*]; done)), H', ⟨Nat.le_refl _⟩, ⟨by repeat (first | (with_reducible first | exact HB.out | apply below_alloc | apply pw_below_drewN | apply below_drew1) | exact HB.out)⟩⟩
  case round =>
    clear H'
    obtain ⟨x4_1, x5_1, rfl, rfl, HA, HK1, HB⟩ := hrel
    cases gk with
    | zero => exact absurd HA.out (by simp [catchpitref06_Put.l0])
    | succ k1 =>
      have H := HA.out
      clear HA
      simp only [catchpitref06_Put.l0] at H
      by_cases c2 : x5_1 < (l0.length : Int)
      · rw [if_pos c2] at H
        have c2b0 : decide (x5_1 < (l0.length : Int)) = true := decide_eq_true c2
        clear c2
        by_cases c3 : 0 ≤ x5_1
        · rw [if_pos c3] at H
          have c3b0 : decide (0 ≤ x5_1) = true := decide_eq_true c3
          clear c3
          replace H := Option.bind_eq_some_iff.mp H
          obtain ⟨t329, A40, H⟩ := H
          replace H : (if t329 = true then ((catchpitref05_Put.f ((rd_T24 l0 x5_1).f0) ((rd_T24 l0 x5_1).f1)).bind fun t331 => (if x4_1.size + t331.size ≤ 9223372036854775807 then (if (x4_1 ++ t331).size + 2 ≤ 9223372036854775807 then (catchpitref06_Put.l0 k1 l0 ((x4_1 ++ t331) ++ (⟨#[13, 10]⟩ : ByteArray)) (wrap64 (x5_1 + 1))) else (none)) else (none))) else (some ((⟨#[]⟩ : ByteArray), false))) = some (r1, r2) := H
          have A4 := Aside0.mk A40
          clear A40
          by_cases c5 : t329 = true
          · subst c5
            have H1 : ((catchpitref05_Put.f ((rd_T24 l0 x5_1).f0) ((rd_T24 l0 x5_1).f1)).bind fun t331 => (if x4_1.size + t331.size ≤ 9223372036854775807 then (if (x4_1 ++ t331).size + 2 ≤ 9223372036854775807 then (catchpitref06_Put.l0 k1 l0 ((x4_1 ++ t331) ++ (⟨#[13, 10]⟩ : ByteArray)) (wrap64 (x5_1 + 1))) else (none)) else (none))) = some (r1, r2) := by rw [if_pos rfl] at H; exact H
            clear H
            have H := H1
            clear H1
            replace H := Option.bind_eq_some_iff.mp H
            obtain ⟨t331, A60, H⟩ := H
            replace H : (if x4_1.size + t331.size ≤ 9223372036854775807 then (if (x4_1 ++ t331).size + 2 ≤ 9223372036854775807 then (catchpitref06_Put.l0 k1 l0 ((x4_1 ++ t331) ++ (⟨#[13, 10]⟩ : ByteArray)) (wrap64 (x5_1 + 1))) else (none)) else (none)) = some (r1, r2) := H
            have A6 := Aside0.mk A60
            clear A60
            by_cases c7 : x4_1.size + t331.size ≤ 9223372036854775807
            · rw [if_pos c7] at H
              have c7b0 := eq_true c7
              have c7b1 : decide (x4_1.size + t331.size ≤ 9223372036854775807) = true := decide_eq_true c7
              try have c7b2 : (9223372036854775807 < x4_1.size + t331.size) = False := eq_false (Nat.not_lt.2 c7)
              by_cases c8 : (x4_1 ++ t331).size + 2 ≤ 9223372036854775807
              · rw [if_pos c8] at H
                have c8b0 := eq_true c8
                try simp only [ByteArray.size_append, ByteArray.size_extract, Nat.min_self] at c8b0
                have c8b1 : decide ((x4_1 ++ t331).size + 2 ≤ 9223372036854775807) = true := decide_eq_true c8
                try simp only [ByteArray.size_append, ByteArray.size_extract, Nat.min_self] at c8b1
                try have c8b2 : (9223372036854775807 < (x4_1 ++ t331).size + 2) = False := eq_false (Nat.not_lt.2 c8)
                try simp only [ByteArray.size_append, ByteArray.size_extract, Nat.min_self] at c8b2
                have H' := Aside0.mk H
                clear H
                have p328 : 0 ≤ (x5_1 : Int) := of_decide_eq_true (by first | (with_reducible assumption) | assumption)
                have q328 : x5_1 < (l0.length : Int) := of_decide_eq_true (by first | (with_reducible assumption) | assumption)
                obtain ⟨ad328, e328, hx328_0, hx328_1⟩ := at_T24 HR0.out x5_1 p328 q328
                cases e328
                replace hx328_0 := (HB.out.cell (World.block_lt_of_cell? w _ hx328_0)).trans hx328_0
                replace hx328_1 := (HB.out.cell (World.block_lt_of_cell? w _ hx328_1)).trans hx328_1
                replace p328 := eq_true p328
                replace q328 := eq_true q328
                go_wp2_with (first | ((with_reducible refine gate_callee (f := 18) rfl ?_); refine goesL_ (some 16) rfl rfl Tryd.func18 (by kernel_rfl) rfl #[.agg #[.string ((rd_T24 l0 x5_1).f0), .string ((rd_T24 l0 x5_1).f1)]] rfl (by (try simp only [List.map_toArray, List.map_cons, List.map_nil]); first | done | rfl | (simp only [List.length_drop, List.length_take]; rfl)) ?_; (with_reducible refine (catchpitref05_Right.calls k1 ((rd_T24 l0 x5_1).f0) ((rd_T24 l0 x5_1).f1) true _ ?side1 A4.out).mono ?_); (case side1 => first | exact hG | exact TabOk.drewN hG _ | exact TabOk.drewN (TabOk.drewN hG _) _ | exact TabOk.below hG (by repeat (first | (with_reducible first | exact HB.out | apply below_alloc | apply pw_below_drewN | apply below_drew1) | exact HB.out))); rintro e w9 ⟨rfl, hb⟩; refine ⟨_, rfl, ?_⟩; have n0_ := Aside0.mk (below_step (by repeat (first | (with_reducible first | exact HB.out | apply below_alloc | apply pw_below_drewN | apply below_drew1) | exact HB.out)) hb); clear HB; have HB := n0_; clear n0_; (try clear hb); (try clear hb2); (try clear hk); (try clear hi); have p330 : 0 ≤ (x5_1 : Int) := of_decide_eq_true (by first | (with_reducible assumption) | assumption); have q330 : x5_1 < (l0.length : Int) := of_decide_eq_true (by first | (with_reducible assumption) | assumption); obtain ⟨ad330, e330, hx330_0, hx330_1⟩ := at_T24 HR0.out x5_1 p330 q330; obtain rfl : ad328 = ad330 := (by injection e330); replace hx330_0 := (HB.out.cell (World.block_lt_of_cell? w _ hx330_0)).trans hx330_0; replace hx330_1 := (HB.out.cell (World.block_lt_of_cell? w _ hx330_1)).trans hx330_1; replace p330 := eq_true p330; replace q330 := eq_true q330) | ((with_reducible refine gate_callee (f := 20) rfl ?_); refine goesL_ (some 23) rfl rfl Tryd.func20 (by kernel_rfl) rfl #[.agg #[.string ((rd_T24 l0 x5_1).f0), .string ((rd_T24 l0 x5_1).f1)]] rfl (by (try simp only [List.map_toArray, List.map_cons, List.map_nil]); first | done | rfl | (simp only [List.length_drop, List.length_take]; rfl)) ?_; (with_reducible refine (catchpitref05_Put.calls ((rd_T24 l0 x5_1).f0) ((rd_T24 l0 x5_1).f1) t331 _ ?side1 A6.out).mono ?_); (case side1 => first | exact hG | exact TabOk.drewN hG _ | exact TabOk.drewN (TabOk.drewN hG _) _ | exact TabOk.below hG (by repeat (first | (with_reducible first | exact HB.out | apply below_alloc | apply pw_below_drewN | apply below_drew1) | exact HB.out))); rintro e w10 ⟨rfl, hb⟩; refine ⟨_, rfl, ?_⟩; have n0_ := Aside0.mk (below_step (by repeat (first | (with_reducible first | exact HB.out | apply below_alloc | apply pw_below_drewN | apply below_drew1) | exact HB.out)) hb); clear HB; have HB := n0_; clear n0_; (try clear hb); (try clear hb2); (try clear hk); (try clear hi)))
                go_roundg k1
                case measure => have := HK1.out; omega
                case rel => exact ⟨((x4_1 ++ t331) ++ (⟨#[13, 10]⟩ : ByteArray)), (wrap64 (x5_1 + 1)), (by first | rfl | (simp; done) | (simp [*]; done)), (by first | rfl | (simp; done) | (simp [*]; done)), H', ⟨by have := HK1.out; omega⟩, ⟨by repeat (first | (with_reducible first | exact HB.out | apply below_alloc | apply pw_below_drewN | apply below_drew1) | exact HB.out)⟩⟩
              · rw [if_neg c8] at H
                exact absurd H (by simp)
            · rw [if_neg c7] at H
              exact absurd H (by simp)
          · replace c5 := Bool.eq_false_iff.mpr c5
            subst c5
            have H1 : (some ((⟨#[]⟩ : ByteArray), false)) = some (r1, r2) := by rw [if_neg (show ¬ (false = true) by decide)] at H; exact H
            clear H
            have H := H1
            clear H1
            simp only [Option.some.injEq, Prod.mk.injEq] at H
            obtain ⟨rfl, rfl⟩ := H
            have p328 : 0 ≤ (x5_1 : Int) := of_decide_eq_true (by first | (with_reducible assumption) | assumption)
            have q328 : x5_1 < (l0.length : Int) := of_decide_eq_true (by first | (with_reducible assumption) | assumption)
            obtain ⟨ad328, e328, hx328_0, hx328_1⟩ := at_T24 HR0.out x5_1 p328 q328
            cases e328
            replace hx328_0 := (HB.out.cell (World.block_lt_of_cell? w _ hx328_0)).trans hx328_0
            replace hx328_1 := (HB.out.cell (World.block_lt_of_cell? w _ hx328_1)).trans hx328_1
            replace p328 := eq_true p328
            replace q328 := eq_true q328
            go_wp2_with (first | ((with_reducible refine gate_callee (f := 18) rfl ?_); refine goesL_ (some 16) rfl rfl Tryd.func18 (by kernel_rfl) rfl #[.agg #[.string ((rd_T24 l0 x5_1).f0), .string ((rd_T24 l0 x5_1).f1)]] rfl (by (try simp only [List.map_toArray, List.map_cons, List.map_nil]); first | done | rfl | (simp only [List.length_drop, List.length_take]; rfl)) ?_; (with_reducible refine (catchpitref05_Right.calls k1 ((rd_T24 l0 x5_1).f0) ((rd_T24 l0 x5_1).f1) false _ ?side1 A4.out).mono ?_); (case side1 => first | exact hG | exact TabOk.drewN hG _ | exact TabOk.drewN (TabOk.drewN hG _) _ | exact TabOk.below hG (by repeat (first | (with_reducible first | exact HB.out | apply below_alloc | apply pw_below_drewN | apply below_drew1) | exact HB.out))); rintro e w11 ⟨rfl, hb⟩; refine ⟨_, rfl, ?_⟩; have n0_ := Aside0.mk (below_step (by repeat (first | (with_reducible first | exact HB.out | apply below_alloc | apply pw_below_drewN | apply below_drew1) | exact HB.out)) hb); clear HB; have HB := n0_; clear n0_; (try clear hb); (try clear hb2); (try clear hk); (try clear hi)))
            go_ret2
            exact ⟨by first | rfl | (simp [errW_none, errW_some] <;> rfl) | (simp [*, errW_none, errW_some] <;> rfl), by repeat (first | (with_reducible first | exact HB.out | apply below_alloc | apply pw_below_drewN | apply below_drew1) | exact HB.out)⟩
        · rw [if_neg c3] at H
          exact absurd H (by simp)
      · rw [if_neg c2] at H
        have c2b0 : decide (x5_1 < (l0.length : Int)) = false := decide_eq_false c2
        clear c2
        by_cases c12 : x4_1.size + 2 ≤ 9223372036854775807
        · rw [if_pos c12] at H
          have c12b0 := eq_true c12
          have c12b1 : decide (x4_1.size + 2 ≤ 9223372036854775807) = true := decide_eq_true c12
          try have c12b2 : (9223372036854775807 < x4_1.size + 2) = False := eq_false (Nat.not_lt.2 c12)
          simp only [Option.some.injEq, Prod.mk.injEq] at H
          obtain ⟨rfl, rfl⟩ := H
          go_wp2
          go_ret2
          exact ⟨by first | rfl | (simp [errW_none, errW_some] <;> rfl) | (simp [*, errW_none, errW_some] <;> rfl), by repeat (first | (with_reducible first | exact HB.out | apply below_alloc | apply pw_below_drewN | apply below_drew1) | exact HB.out)⟩
        · rw [if_neg c12] at H
          exact absurd H (by simp)
def block_Size.f (l0 : List (S24)) : Option (Int) := (block_Put.f l0).bind fun bt332 => (some (bt332.1.size : Int))
def catchpitlaw06_BlockPuts.j0 : Nat → List (S24) → ByteArray → Bool → Option (Bool)
  | 0, _, _, _ => none
  | k + 1, x0, x1, x20 => if x20 = true then (some true) else ((block_Put.f x0).bind fun bt336 => ((catchpitref06_Put.f k x0).bind fun bt338 => (if bt338.2 = true then (if bt336.1.size + x1.size ≤ 9223372036854775807 then ((block_Scan.f (bt336.1 ++ x1)).bind fun bt340 => (if bt336.1.toList = bt338.1.toList then (if bt336.2 = 0 then ((block_Size.f x0).bind fun t345 => (if t345 = (bt336.1.size : Int) then (if bt340.2.2 = 0 then (if bt340.2.1 = (bt336.1.size : Int) then ((catchpitref05_Fields.f k bt340.1 x0).bind fun t346 => (some t346)) else (some false)) else (some false)) else (some false))) else (some false)) else (some false))) else (none)) else (if bt336.1.toList = ([] : List UInt8) then (if bt336.2 = 1 then ((block_Size.f x0).bind fun t347 => (some (t347 == 0))) else (some false)) else (some false)))))
def catchpitlaw06_BlockPuts.f (k : Nat) (l0 : List (S24)) (a1 : ByteArray) : Option (Bool) := (catchpitlaw06_wakes.f).bind fun t334 => (if t334 = true then ((catchpitref05_Great.f k l0).bind fun t335 => (if t335 = true then (catchpitlaw06_BlockPuts.j0 k l0 a1 true) else (catchpitlaw06_BlockPuts.j0 k l0 a1 (decide ((a1.size : Int) > 200))))) else (some false))
theorem catchpitlaw06_BlockPuts.mono_l : ∀ k, (∀ y0 y1 y2, LeO (catchpitlaw06_BlockPuts.j0 k y0 y1 y2) (catchpitlaw06_BlockPuts.j0 (k + 1) y0 y1 y2))
  | 0 => fun _ _ _ r h => by simp [catchpitlaw06_BlockPuts.j0] at h
  | k + 1 => by
    have ih0 := catchpitlaw06_BlockPuts.mono_l k
    · intro y0 y1 y2
      unfold catchpitlaw06_BlockPuts.j0
      repeat' first
      | (with_reducible exact ih0 _ _ _)
      | (with_reducible exact catchpitref05_Fields.mono _ _ _)
      | (with_reducible exact catchpitref05_Great.mono _ _)
      | (with_reducible exact catchpitref06_Put.mono _ _)
      | (with_reducible exact LeO.refl _)
      | (with_reducible exact LeO.none _)
      | (with_reducible refine LeO.ite ?_ ?_)
      | (with_reducible refine LeO.bind ?_ (fun _ => ?_))
      | exact ih0 _ _ _
      | exact catchpitref05_Fields.mono _ _ _
      | exact catchpitref05_Great.mono _ _
      | exact catchpitref06_Put.mono _ _
      | exact LeO.none _
      | refine LeO.ite ?_ ?_
      | refine LeO.bind ?_ (fun _ => ?_)
theorem catchpitlaw06_BlockPuts.mono : ∀ a0 a1 k, LeO (catchpitlaw06_BlockPuts.f k a0 a1) (catchpitlaw06_BlockPuts.f (k + 1) a0 a1) := by
  intro a0 a1 k
  have ih0 := catchpitlaw06_BlockPuts.mono_l k
  unfold catchpitlaw06_BlockPuts.f
  repeat' first
      | (with_reducible exact ih0 _ _ _)
      | (with_reducible exact catchpitref05_Fields.mono _ _ _)
      | (with_reducible exact catchpitref05_Great.mono _ _)
      | (with_reducible exact catchpitref06_Put.mono _ _)
      | (with_reducible exact LeO.refl _)
      | (with_reducible exact LeO.none _)
      | (with_reducible refine LeO.ite ?_ ?_)
      | (with_reducible refine LeO.bind ?_ (fun _ => ?_))
      | exact ih0 _ _ _
      | exact catchpitref05_Fields.mono _ _ _
      | exact catchpitref05_Great.mono _ _
      | exact catchpitref06_Put.mono _ _
      | exact LeO.none _
      | refine LeO.ite ?_ ?_
      | refine LeO.bind ?_ (fun _ => ?_)
end Go.Proofs.YtdkecmjoenfjdaaDoor.Pr
end
