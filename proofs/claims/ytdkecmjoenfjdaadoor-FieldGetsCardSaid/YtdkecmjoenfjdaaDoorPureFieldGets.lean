/- Of any fields the values of a name, and the fields without some names, are the document's; both together they are all. -/
import Derived.Test.YtdkecmjoenfjdaaDoorQFieldL
import Derived.Test.YtdkecmjoenfjdaaDoorPrx14
namespace Go.Proofs.YtdkecmjoenfjdaaDoor.Pure
open Go.RowKit Go.Proofs.YtdkecmjoenfjdaaDoorH Go.Proofs.YtdkecmjoenfjdaaDoor.Pr Go.Proofs.YtdkecmjoenfjdaaDoorW.PrintWords Go.Proofs.YtdkecmjoenfjdaaDoorW.PrintLast

theorem both_all (l : List Fld) (n : ByteArray) : (withoutL l [n]).length + (getL l n).length = l.length := by
  induction l with
  | nil => rfl
  | cons x l ih =>
    have hn : namedB [n] x = isB x n := by simp [namedB]
    rw [withoutL_cons, hn]
    unfold getL at ih ⊢
    cases h : isB x n with
    | true => rw [List.filter_cons_of_pos (p := fun x => isB x n) h]; simp at ih ⊢; omega
    | false => rw [List.filter_cons_of_neg (p := fun x => isB x n) (by simp [h])]; simp at ih ⊢; omega

theorem Gets_l1 (l : List Fld) (n : ByteArray) (names : List ByteArray) (hl : Small1 l) (hn : n.size ≤ 140737488351232) (hc : l.length ≤ 2000) (hns : ∀ y ∈ names, y.size ≤ 140737488351232) (hd : names.length ≤ 20) :
    ∃ B, ∀ d i k : Nat, i ≤ l.length → l.length - i = d → B + d < k → catchpitlaw05_FieldGets.l1 k l n names (getL l n) l (l.length : Int) (i : Int) = some true := by
  obtain ⟨K0, h0⟩ := ev_all (fun k (x : Fld) => catchpitref05_Is.f k x.f0 x.f1 n) (fun x => isB x n) l (fun x hx => ref05_Is x n (hl x hx).1 hn)
  obtain ⟨K1, h1⟩ := ref05_Get l n hl hn (by omega)
  obtain ⟨K2, h2⟩ := ref05_Texts (getL l n) (by have := getL_length l n; omega)
  obtain ⟨K3, h3⟩ := ref05_Without l names hl hns (by omega) (by omega)
  obtain ⟨K4, h4⟩ := ref05_Fields (withoutL l names) (by have : (withoutL l names).length ≤ l.length := List.length_filter_le _ _; omega)
  refine ⟨K0 + K1 + K2 + K3 + K4, fun d => ?_⟩
  induction d with
  | zero =>
    intro i k e1 e2 hk
    obtain ⟨k, rfl⟩ : ∃ m, k = m + 1 := ⟨k - 1, by omega⟩
    have h1 := h1 k (by omega)
    have h2 := h2 k (by omega)
    have h3 := h3 k (by omega)
    have h4 := h4 k (by omega)
    simp only at h1 h2 h3 h4
    have hb := both_all l n
    rw [catchpitlaw05_FieldGets.l1, if_neg (by omega), h1, Option.bind_some, h2, Option.bind_some, if_pos rfl, field_Without_eq l names hl hns (by omega) (by omega), Option.bind_some, h3, Option.bind_some, h4, Option.bind_some, if_pos rfl]
    simp only [field_Without_eq l [n] hl (by simpa using hn) (by omega) (by simp), Option.bind_some]
    rw [show wrap64 (((withoutL l [n]).length : Int) + ((getL l n).length : Int)) = (l.length : Int) by unfold wrap64; omega]
    simp
  | succ d ih =>
    intro i k e1 e2 hk
    obtain ⟨k, rfl⟩ : ∃ m, k = m + 1 := ⟨k - 1, by omega⟩
    have hi : i < l.length := by omega
    have hm := mem_getD l z24 i hi
    have hq := h0 k (by omega) _ hm
    rw [catchpitlaw05_FieldGets.l1, if_pos (by omega), if_pos (by omega), if_pos (by omega), rd_nat, field_Is_eq _ _ (hl _ hm).1 hn, Option.bind_some, hq, Option.bind_some, if_neg (by simp), show wrap64 ((i : Int) + 1) = ((i + 1 : Nat) : Int) by unfold wrap64; omega]
    exact ih (i + 1) k (by omega) (by omega) (by omega)

theorem Gets_l0 (l : List Fld) (n : ByteArray) (names : List ByteArray) (hl : Small1 l) (hn : n.size ≤ 140737488351232) (hc : l.length ≤ 2000) (hns : ∀ y ∈ names, y.size ≤ 140737488351232) (hd : names.length ≤ 20) :
    ∃ B, ∀ d i k : Nat, i ≤ names.length → names.length - i = d → B + d < k → catchpitlaw05_FieldGets.l0 k l n names names (names.length : Int) (i : Int) = some true := by
  obtain ⟨B, hB⟩ := Gets_l1 l n names hl hn hc hns hd
  refine ⟨B + l.length + 1, fun d => ?_⟩
  induction d with
  | zero =>
    intro i k e1 e2 hk
    obtain ⟨k, rfl⟩ : ∃ m, k = m + 1 := ⟨k - 1, by omega⟩
    rw [catchpitlaw05_FieldGets.l0, if_neg (by omega), field_Get_eq l n hl hn (by omega), Option.bind_some]
    exact hB l.length 0 k (by omega) (by omega) (by omega)
  | succ d ih =>
    intro i k e1 e2 hk
    obtain ⟨k, rfl⟩ : ∃ m, k = m + 1 := ⟨k - 1, by omega⟩
    rw [catchpitlaw05_FieldGets.l0, if_pos (by omega), if_pos (by omega), if_pos (by omega)]
    by_cases h : ((rdOf ByteArray.empty names (i : Int)).size : Int) > 300
    · rw [if_pos h]
    · rw [if_neg h, show wrap64 ((i : Int) + 1) = ((i + 1 : Nat) : Int) by unfold wrap64; omega]
      exact ih (i + 1) k (by omega) (by omega) (by omega)

theorem FieldGets (l : List Fld) (n : ByteArray) (names : List ByteArray) (hl : l.length * 32 ≤ 140737488351232 ∧ ∀ y ∈ l, (y.f0.size ≤ 140737488351232 ∧ y.f1.size ≤ 140737488351232)) (hn : n.size ≤ 140737488351232)
    (hs : names.length * 16 ≤ 140737488351232 ∧ ∀ y ∈ names, y.size ≤ 140737488351232) : ∃ k, catchpitlaw05_FieldGets.f k l n names = some true := by
  have hl1 : Small1 l := hl.2
  obtain ⟨K, hK⟩ := ref05_Great l hl1 (by omega)
  by_cases hg : 2000 < sumF l
  · refine ⟨K + 1, ?_⟩
    have hK := hK (K + 1) (by omega)
    simp only at hK
    rw [catchpitlaw05_FieldGets.f, wakes05, Option.bind_some, if_pos rfl, hK, Option.bind_some, decide_eq_true hg, if_pos rfl]
    rfl
  · have hlen := sumF_length l
    by_cases h : names.length > 20
    · refine ⟨K + 1, ?_⟩
      have hK := hK (K + 1) (by omega)
      simp only at hK
      rw [catchpitlaw05_FieldGets.f, wakes05, Option.bind_some, if_pos rfl, hK, Option.bind_some, decide_eq_false hg, if_neg (by simp), if_pos (by omega)]
      rfl
    · obtain ⟨B, hB⟩ := Gets_l0 l n names hl1 hn (by omega) hs.2 (by omega)
      refine ⟨K + B + names.length + 3, ?_⟩
      have hK := hK (K + B + names.length + 3) (by omega)
      simp only at hK
      rw [catchpitlaw05_FieldGets.f, wakes05, Option.bind_some, if_pos rfl, hK, Option.bind_some, decide_eq_false hg, if_neg (by simp), if_neg (by omega)]
      show catchpitlaw05_FieldGets.j0 (K + B + names.length + 2 + 1) l n names _ = _
      rw [catchpitlaw05_FieldGets.j0]
      by_cases h300 : (n.size : Int) > 300
      · rw [decide_eq_true h300, if_pos rfl]
      · rw [decide_eq_false h300, if_neg (by simp)]
        exact hB names.length 0 _ (by omega) (by omega) (by omega)
end Go.Proofs.YtdkecmjoenfjdaaDoor.Pure
