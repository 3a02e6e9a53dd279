/- Any text of up to 500 bytes, trimmed, and in small letters, is what the document's reference says; done twice it is the same; trimmed a text is a value. -/
import Derived.Test.YtmdnomeelkmaoaaDoorPureOctetAlike
namespace Go.Proofs.YtmdnomeelkmaoaaDoor.Pure
open Go.RowKit Go.Proofs.YtmdnomeelkmaoaaDoorH Go.Proofs.YtmdnomeelkmaoaaDoor.Pr Go.Proofs.YtmdnomeelkmaoaaDoorW.PrintWords Go.Proofs.YtmdnomeelkmaoaaDoorW.PrintLast

theorem smallS_size (s : ByteArray) : (smallS s).size = s.size := by
  unfold smallS
  rw [strOfNums_size, smallL_length]
theorem smallI_idem (c : Int) : smallI (smallI c) = smallI c := by
  unfold smallI
  by_cases h : 65 ≤ c ∧ c ≤ 90
  · rw [if_pos h, if_neg (by omega)]
  · rw [if_neg h, if_neg h]
theorem smallI_range (c : Int) (h : 0 ≤ c ∧ c ≤ 255) : 0 ≤ smallI c ∧ smallI c ≤ 255 := by
  unfold smallI
  split <;> omega
theorem bytesOf_strOfNums (l : List Int) (h : ∀ x ∈ l, 0 ≤ x ∧ x ≤ 255) : bytesOf (strOfNums l) = l := by
  unfold bytesOf
  rw [strOfNums_data, List.map_map]
  conv => rhs; rw [← List.map_id l]
  apply List.map_congr_left
  intro x hx
  obtain ⟨h0, h1⟩ := h x hx
  simp only [Function.comp_apply, id_eq, UInt8.toNat_ofNat']
  omega
theorem bytesOf_range (s : ByteArray) : ∀ x ∈ bytesOf s, 0 ≤ x ∧ x ≤ 255 := by
  intro x hx
  unfold bytesOf at hx
  obtain ⟨c, _, rfl⟩ := List.mem_map.1 hx
  have := c.toNat_lt
  omega
theorem smallS_idem (s : ByteArray) : smallS (smallS s) = smallS s := by
  unfold smallS
  congr 1
  have h : bytesOf (strOfNums (smallL s)) = smallL s := by
    apply bytesOf_strOfNums
    intro x hx
    unfold smallL at hx
    obtain ⟨c, hc, rfl⟩ := List.mem_map.1 hx
    exact smallI_range c (bytesOf_range s c hc)
  unfold smallL at h ⊢
  rw [h, List.map_map]
  apply List.map_congr_left
  intro x _
  exact smallI_idem x

theorem OctetTrims : catchpitlaw02_OctetTrims.Pure := by
  intro a ha
  have hs : a.size ≤ 140737488355328 := by omega
  have ht := trimS_size a
  obtain ⟨K1, h1⟩ := ref02_Trim a hs
  obtain ⟨K2, h2⟩ := ref02_Small a (by omega)
  obtain ⟨K3, h3⟩ := ref02_Text (trimS a) (by omega)
  have h1 := h1 (K1 + K2 + K3) (by omega)
  have h2 := h2 (K1 + K2 + K3) (by omega)
  have h3 := h3 (K1 + K2 + K3) (by omega)
  refine ⟨K1 + K2 + K3, ?_⟩
  generalize K1 + K2 + K3 = k at h1 h2 h3 ⊢
  simp only at h1 h2 h3
  rw [catchpitlaw02_OctetTrims.f, wakes02, Option.bind_some, if_pos rfl]
  by_cases hl : (a.size : Int) > 500
  · rw [if_pos hl]
  rw [if_neg hl, h1, h2]
  have e1 : octet_Trim.f a = some (trimS a) := by unfold octet_Trim.f; rw [if_pos hs]
  have e2 : octet_Small.f a = some (smallS a) := by unfold octet_Small.f; rw [if_pos hs]
  have e3 : octet_Trim.f (trimS a) = some (trimS a) := by unfold octet_Trim.f; rw [if_pos (by omega), trimS_idem]
  have e4 : octet_Small.f (smallS a) = some (smallS a) := by unfold octet_Small.f; rw [if_pos (by rw [smallS_size]; omega), smallS_idem]
  have e5 : octet_Alike.f a (smallS a) = some true := by rw [alike_eq a _ (by omega) (by rw [smallS_size]; omega), smallS_idem]; simp
  have e6 : octet_Value.f (trimS a) = some (allB textI (trimS a)) := by
    unfold octet_Value.f octet_Text.f octet_Trim.f
    simp only [if_pos (show (trimS a).size ≤ 140737488355328 by omega), Option.bind_some]
    cases allB textI (trimS a) with
    | false => rfl
    | true => rw [if_pos rfl, beq_toList, trimS_idem]; simp
  simp only [e1, e2, Option.bind_some, if_true, e3, e4, e5, e6, h3]
  simp
end Go.Proofs.YtmdnomeelkmaoaaDoor.Pure
