/- Two texts of up to 500 bytes each are alike just if they are the same in small letters; either way round. -/
import Derived.Test.YtmdnomeelkmaoaaDoorQOctet
namespace Go.Proofs.YtmdnomeelkmaoaaDoor.Pure
open Go.RowKit Go.Proofs.YtmdnomeelkmaoaaDoorH Go.Proofs.YtmdnomeelkmaoaaDoor.Pr Go.Proofs.YtmdnomeelkmaoaaDoorW.PrintWords Go.Proofs.YtmdnomeelkmaoaaDoorW.PrintLast

theorem alike_eq (a b : ByteArray) (ha : a.size ≤ 140737488355327) (hb : b.size ≤ 140737488355327) : octet_Alike.f a b = some (decide (smallS a = smallS b)) := by
  unfold octet_Alike.f octet_Small.f
  simp only [if_pos (show a.size ≤ 140737488355328 by omega), if_pos (show b.size ≤ 140737488355328 by omega), Option.bind_some]
  rw [beq_toList]

theorem OctetAlike : catchpitlaw02_OctetAlike.Pure := by
  intro a b ha hb
  obtain ⟨K1, h1⟩ := ref02_Small a (by omega)
  obtain ⟨K2, h2⟩ := ref02_Small b (by omega)
  have h1 := h1 (K1 + K2) (by omega)
  have h2 := h2 (K1 + K2) (by omega)
  refine ⟨K1 + K2 + 1, ?_⟩
  generalize K1 + K2 = k at h1 h2 ⊢
  simp only at h1 h2
  rw [catchpitlaw02_OctetAlike.f, wakes02, Option.bind_some, if_pos rfl]
  by_cases hl : (a.size : Int) > 500
  · rw [if_pos hl]; rfl
  rw [if_neg hl]
  by_cases hl2 : (b.size : Int) > 500
  · rw [decide_eq_true hl2]; rfl
  rw [decide_eq_false hl2, catchpitlaw02_OctetAlike.j0, if_neg (by simp), h1, h2, alike_eq a b (by omega) (by omega), alike_eq b a (by omega) (by omega)]
  simp only [Option.bind_some]
  rw [beq_toList]
  simp [eq_comm]
end Go.Proofs.YtmdnomeelkmaoaaDoor.Pure
