/- Any line of up to 500 bytes is the field that the document's reference says, or none; what is told is right. -/
import Derived.Test.YtdkecmjoenfjdaaDoorQField
import Derived.Test.YtdkecmjoenfjdaaDoorPrx7
import Derived.Test.YtdkecmjoenfjdaaDoorPrx2
namespace Go.Proofs.YtdkecmjoenfjdaaDoor.Pure
open Go.RowKit Go.Proofs.YtdkecmjoenfjdaaDoorH Go.Proofs.YtdkecmjoenfjdaaDoor.Pr Go.Proofs.YtdkecmjoenfjdaaDoorW.PrintWords Go.Proofs.YtdkecmjoenfjdaaDoorW.PrintLast

theorem wakes05 : catchpitlaw05_wakes.f = some true := by
  unfold catchpitlaw05_wakes.f
  rw [field_Parse_eq _ (by decide), Option.bind_some]
  decide +kernel

theorem FieldParses : catchpitlaw05_FieldParses.Pure := by
  intro s hs
  have hs' : s.size ≤ 140737488355328 := by omega
  obtain ⟨K1, h1⟩ := ref05_Parse s hs'
  have h1 := h1 K1 (by omega)
  simp only at h1
  refine ⟨K1, ?_⟩
  rw [catchpitlaw05_FieldParses.f, wakes05, Option.bind_some, if_pos rfl]
  by_cases hl : (s.size : Int) > 500
  · rw [if_pos hl]
  rw [if_neg hl, field_Parse_eq s (by omega), Option.bind_some, h1, Option.bind_some]
  cases hb : lineB s with
  | false =>
    unfold parseF parseV
    simp [hb]
  | true =>
    have h1 := nameOf_size s
    have h2 := restOf_size s
    have h3 := trimS_size (restOf s)
    have hr : rightB (parseF s) (parseV s) = true := by
      unfold parseF parseV
      rw [if_pos hb, if_pos hb]
      unfold lineB at hb
      unfold rightB
      rw [value_trim]
      simp only [Bool.and_eq_true] at hb ⊢
      exact hb.2
    rw [field_Right_eq _ _ (by show (parseF s).size ≤ _; unfold parseF; rw [if_pos hb]; omega) (by show (parseV s).size ≤ _; unfold parseV; rw [if_pos hb]; omega), hr]
    simp
end Go.Proofs.YtdkecmjoenfjdaaDoor.Pure
