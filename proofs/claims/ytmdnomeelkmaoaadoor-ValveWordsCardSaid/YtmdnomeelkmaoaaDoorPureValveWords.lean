/- Any outcome's word, any word's outcome, any error's outcome are those of the document's reference. -/
import Derived.Test.YtmdnomeelkmaoaaDoorQValve
namespace Go.Proofs.YtmdnomeelkmaoaaDoor.Pure
open Go.RowKit Go.Proofs.YtmdnomeelkmaoaaDoorV Go.Proofs.YtmdnomeelkmaoaaDoor.Pv Go.Proofs.YtmdnomeelkmaoaaDoorW.PrintWords Go.Proofs.YtmdnomeelkmaoaaDoorW.PrintLast

theorem ValveWords : catchpitlaw19_ValveWords.Pure := by
  intro n s e _ hs _
  refine ⟨9, ?_⟩
  obtain ⟨t, h1, h2⟩ := of_same 8 (wrap64 e)
  rw [catchpitlaw19_ValveWords.f, catchpitlaw19_wakes.f, Option.bind_some, if_pos rfl, ref19_Find s 9 (by omega), ref19_Word, h1, h2]
  unfold valve_Find.f valve_Word.f
  simp
end Go.Proofs.YtmdnomeelkmaoaaDoor.Pure
