/- Any field is right, or not, and has the document's line, or is refused; it is parsed as it was. -/
import Derived.Test.YtdkecmjoenfjdaaDoorQLine
import Derived.Test.YtdkecmjoenfjdaaDoorPrx10
namespace Go.Proofs.YtdkecmjoenfjdaaDoor.Pure
open Go.RowKit Go.Proofs.YtdkecmjoenfjdaaDoorH Go.Proofs.YtdkecmjoenfjdaaDoor.Pr Go.Proofs.YtdkecmjoenfjdaaDoorW.PrintWords Go.Proofs.YtdkecmjoenfjdaaDoorW.PrintLast

theorem FieldPuts_j0 (a b : ByteArray) (ha : a.size ≤ 140737488351232) (hb : b.size ≤ 140737488351232) (h3 : a.size ≤ 300) (h4 : b.size ≤ 300) : ∃ k, catchpitlaw05_FieldPuts.j0 (k + 1) false a b = some true := by
  obtain ⟨K, hK⟩ := ref05_Right a b (by omega) (by omega)
  have hK := hK K (Nat.le_refl _)
  simp only at hK
  refine ⟨K, ?_⟩
  have hsz := putS_size a b
  have hps := putS_pos a b
  rw [catchpitlaw05_FieldPuts.j0, if_neg (by simp), field_Put_eq a b ha hb, Option.bind_some, field_Right_eq a b (by omega) (by omega), Option.bind_some, hK, Option.bind_some, if_neg (by simp), Option.bind_some]
  cases hr : rightB a b with
  | false =>
    simp
  | true =>
    obtain ⟨p1, p2, p3⟩ := putS_parse a b hr
    simp only [if_true, field_Parse_eq _ (show (putS a b).size < 4294967281 by omega), Option.bind_some, ref05_Put a b ha hb, p1, p2, p3]
    simp

theorem FieldPuts (x : S24) (hx : x.f0.size ≤ 140737488351232 ∧ x.f1.size ≤ 140737488351232) : ∃ k, catchpitlaw05_FieldPuts.f k x.f0 x.f1 = some true := by
  by_cases h3 : x.f0.size ≤ 300 ∧ x.f1.size ≤ 300
  · obtain ⟨k, hk⟩ := FieldPuts_j0 x.f0 x.f1 hx.1 hx.2 h3.1 h3.2
    refine ⟨k + 1, ?_⟩
    rw [catchpitlaw05_FieldPuts.f, wakes05, Option.bind_some, if_pos rfl, if_neg (by omega), decide_eq_false (by omega)]
    exact hk
  · refine ⟨1, ?_⟩
    rw [catchpitlaw05_FieldPuts.f, wakes05, Option.bind_some, if_pos rfl]
    by_cases h : (x.f0.size : Int) > 300
    · rw [if_pos h]
      rfl
    · rw [if_neg h, decide_eq_true (by omega)]
      rfl
end Go.Proofs.YtdkecmjoenfjdaaDoor.Pure
