/- Any text of up to 500 bytes is a token, a text, a value, or not, as the document's reference says. -/
import Derived.Test.YtmdnomeelkmaoaaDoorQOctet
namespace Go.Proofs.YtmdnomeelkmaoaaDoor.Pure
open Go.RowKit Go.Proofs.YtmdnomeelkmaoaaDoorH Go.Proofs.YtmdnomeelkmaoaaDoor.Pr Go.Proofs.YtmdnomeelkmaoaaDoorW.PrintWords Go.Proofs.YtmdnomeelkmaoaaDoorW.PrintLast

theorem OctetKinds : catchpitlaw02_OctetKinds.Pure := by
  intro a ha
  have hs : a.size ≤ 140737488355328 := by omega
  obtain ⟨K1, h1⟩ := ref02_Token a hs
  obtain ⟨K2, h2⟩ := ref02_Text a hs
  obtain ⟨K3, h3⟩ := ref02_Value a hs
  have h1 := h1 (K1 + K2 + K3) (by omega)
  have h2 := h2 (K1 + K2 + K3) (by omega)
  have h3 := h3 (K1 + K2 + K3) (by omega)
  refine ⟨K1 + K2 + K3, ?_⟩
  generalize K1 + K2 + K3 = k at h1 h2 h3 ⊢
  simp only at h1 h2 h3
  rw [catchpitlaw02_OctetKinds.f, wakes02, Option.bind_some, if_pos rfl]
  by_cases hl : (a.size : Int) > 500
  · rw [if_pos hl]
  rw [if_neg hl, h1, h2, h3]
  have hv : octet_Value.f a = some (allB textI a && decide (trimS a = a)) := by
    unfold octet_Value.f octet_Text.f octet_Trim.f
    simp only [if_pos hs, Option.bind_some]
    cases allB textI a with
    | false => rfl
    | true => rw [if_pos rfl, beq_toList, Bool.true_and]
  rw [hv]
  unfold octet_Token.f octet_Text.f
  simp only [if_pos hs, Option.bind_some]
  simp
end Go.Proofs.YtmdnomeelkmaoaaDoor.Pure
