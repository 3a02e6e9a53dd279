/- Each outcome's word finds it. -/
import Derived.Test.YtmdnomeelkmaoaaDoorQValve
namespace Go.Proofs.YtmdnomeelkmaoaaDoor.Pure
open Go.RowKit Go.Proofs.YtmdnomeelkmaoaaDoorV Go.Proofs.YtmdnomeelkmaoaaDoor.Pv Go.Proofs.YtmdnomeelkmaoaaDoorW.PrintWords Go.Proofs.YtmdnomeelkmaoaaDoorW.PrintLast

theorem ValveBack : catchpitlaw19_ValveBack.Pure := by
  intro a ha
  have h0 : 0 ≤ a ∧ a ≤ 255 := by
    have h1 : IntKind.u8.min = 0 := rfl
    have h2 : IntKind.u8.max = 255 := rfl
    simp [Lit.wf, h1, h2] at ha
    omega
  obtain ⟨n, rfl⟩ := Int.eq_ofNat_of_zero_le h0.1
  have : ∀ n : Fin 256, catchpitlaw19_ValveBack.f (n.val : Int) = some true := by decide +kernel
  exact this ⟨n, by omega⟩
end Go.Proofs.YtmdnomeelkmaoaaDoor.Pure
