/- Of two lists of fields, one behind the other, the values of a name, and the fields without it, are those of both. -/
import Derived.Test.YtdkecmjoenfjdaaDoorQFieldL
import Derived.Test.YtdkecmjoenfjdaaDoorPrx15
namespace Go.Proofs.YtdkecmjoenfjdaaDoor.Pure
open Go.RowKit Go.Proofs.YtdkecmjoenfjdaaDoorH Go.Proofs.YtdkecmjoenfjdaaDoor.Pr Go.Proofs.YtdkecmjoenfjdaaDoorW.PrintWords Go.Proofs.YtdkecmjoenfjdaaDoorW.PrintLast

theorem FieldJoins (a b : List Fld) (n : ByteArray) (ha : a.length * 32 ≤ 140737488351232 ∧ ∀ y ∈ a, (y.f0.size ≤ 140737488351232 ∧ y.f1.size ≤ 140737488351232))
    (hb : b.length * 32 ≤ 140737488351232 ∧ ∀ y ∈ b, (y.f0.size ≤ 140737488351232 ∧ y.f1.size ≤ 140737488351232)) (hn : n.size ≤ 140737488351232) : ∃ k, catchpitlaw05_FieldJoins.f k a b n = some true := by
  have ha1 : Small1 a := ha.2
  have hb1 : Small1 b := hb.2
  obtain ⟨K1, h1⟩ := ref05_Great a ha1 (by omega)
  obtain ⟨K2, h2⟩ := ref05_Great b hb1 (by omega)
  by_cases hg : 2000 < sumF a
  · refine ⟨K1 + 1, ?_⟩
    have h1 := h1 (K1 + 1) (by omega)
    simp only at h1
    rw [catchpitlaw05_FieldJoins.f, wakes05, Option.bind_some, if_pos rfl, h1, Option.bind_some, decide_eq_true hg, if_pos rfl]
    rfl
  by_cases hg2 : 2000 < sumF b
  · refine ⟨K1 + K2 + 1, ?_⟩
    have h1 := h1 (K1 + K2 + 1) (by omega)
    have h2 := h2 (K1 + K2 + 1) (by omega)
    simp only at h1 h2
    rw [catchpitlaw05_FieldJoins.f, wakes05, Option.bind_some, if_pos rfl, h1, Option.bind_some, decide_eq_false hg, if_neg (by simp), h2, Option.bind_some, decide_eq_true hg2, if_pos rfl]
    rfl
  have hla := sumF_length a
  have hlb := sumF_length b
  have hab1 : Small1 (a ++ b) := fun y hy => (List.mem_append.1 hy).elim (ha1 y) (hb1 y)
  have hlab : (a ++ b).length = a.length + b.length := List.length_append
  have eg : getL (a ++ b) n = getL a n ++ getL b n := by unfold getL; rw [List.filter_append, List.map_append]
  have ew : withoutL (a ++ b) [n] = withoutL a [n] ++ withoutL b [n] := by unfold withoutL; rw [List.filter_append]
  have l1 := getL_length a n
  have l2 := getL_length b n
  have l3 : (withoutL a [n]).length ≤ a.length := List.length_filter_le _ _
  have l4 : (withoutL b [n]).length ≤ b.length := List.length_filter_le _ _
  have hns : ∀ y ∈ [n], y.size ≤ 140737488351232 := by simpa using hn
  obtain ⟨K3, h3⟩ := ref05_Texts (getL a n ++ getL b n) (by rw [List.length_append]; omega)
  obtain ⟨K4, h4⟩ := ref05_Fields (withoutL a [n] ++ withoutL b [n]) (by rw [List.length_append]; omega)
  refine ⟨K1 + K2 + K3 + K4 + 1, ?_⟩
  have h1 := h1 (K1 + K2 + K3 + K4 + 1) (by omega)
  have h2 := h2 (K1 + K2 + K3 + K4 + 1) (by omega)
  have h3 := h3 (K1 + K2 + K3 + K4) (by omega)
  have h4 := h4 (K1 + K2 + K3 + K4) (by omega)
  simp only at h1 h2 h3 h4
  rw [catchpitlaw05_FieldJoins.f, wakes05, Option.bind_some, if_pos rfl, h1, Option.bind_some, decide_eq_false hg, if_neg (by simp), h2, Option.bind_some, decide_eq_false hg2, if_neg (by simp), catchpitlaw05_FieldJoins.j0]
  by_cases h300 : (n.size : Int) > 300
  · rw [decide_eq_true h300, if_pos rfl]
  rw [decide_eq_false h300, if_neg (by simp)]
  simp only [Option.bind_some, List.nil_append, List.length_nil, Nat.zero_add]
  rw [if_pos (by omega), if_pos (by omega)]
  simp only [field_Get_eq (a ++ b) n hab1 hn (by omega), field_Get_eq a n ha1 hn (by omega), field_Get_eq b n hb1 hn (by omega), field_Without_eq (a ++ b) [n] hab1 hns (by omega) (by simp),
    field_Without_eq a [n] ha1 hns (by omega) (by simp), field_Without_eq b [n] hb1 hns (by omega) (by simp), Option.bind_some, eg, ew, h3, h4]
  rw [if_pos (by omega), if_pos (by omega), if_pos trivial, if_pos (by omega), if_pos (by omega)]
end Go.Proofs.YtdkecmjoenfjdaaDoor.Pure
