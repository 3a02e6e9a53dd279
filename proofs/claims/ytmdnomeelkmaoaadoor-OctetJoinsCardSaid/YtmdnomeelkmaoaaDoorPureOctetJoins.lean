/- Two texts, one behind the other, are a text just if both are; two tokens are a token: at every two texts of up to 300 bytes each (longer ones are let by). -/
import Derived.Test.YtmdnomeelkmaoaaDoorQOctet
namespace Go.Proofs.YtmdnomeelkmaoaaDoor.Pure
open Go.RowKit Go.Proofs.YtmdnomeelkmaoaaDoorH Go.Proofs.YtmdnomeelkmaoaaDoor.Pr Go.Proofs.YtmdnomeelkmaoaaDoorW.PrintWords Go.Proofs.YtmdnomeelkmaoaaDoorW.PrintLast

theorem OctetJoins : catchpitlaw02_OctetJoins.Pure := by
  intro a b ha hb
  refine ⟨2, ?_⟩
  rw [catchpitlaw02_OctetJoins.f, wakes02, Option.bind_some, if_pos rfl]
  by_cases h1 : (a.size : Int) > 300
  · rw [if_pos h1]; rfl
  rw [if_neg h1]
  by_cases h2 : (b.size : Int) > 300
  · rw [decide_eq_true h2]; rfl
  rw [decide_eq_false h2, catchpitlaw02_OctetJoins.j0, if_neg (by simp), if_pos (by omega)]
  have hs : (a ++ b).size = a.size + b.size := by rw [size_eq_length, append_data, List.length_append, data_length, data_length]
  unfold octet_Text.f
  simp only [if_pos (show (a ++ b).size ≤ 140737488355328 by omega), if_pos (show a.size ≤ 140737488355328 by omega), if_pos (show b.size ≤ 140737488355328 by omega), Option.bind_some]
  rw [allB_append]
  have hj : catchpitlaw02_OctetJoins.j1 1 a b false = some true := by
    rw [catchpitlaw02_OctetJoins.j1, if_neg (by simp)]
    unfold octet_Token.f
    simp only [if_pos (show (a ++ b).size ≤ 140737488355328 by omega), if_pos (show a.size ≤ 140737488355328 by omega), if_pos (show b.size ≤ 140737488355328 by omega), Option.bind_some]
    cases hta : tokB a with
    | false => rfl
    | true =>
      cases htb : tokB b with
      | false => rfl
      | true =>
        rw [if_pos rfl, if_pos rfl, if_pos (by omega)]
        unfold tokB at hta htb ⊢
        rw [Bool.and_eq_true] at hta htb
        rw [isEmpty_append, allB_append, hta.2, htb.2]
        have := hta.1
        simp only [Bool.not_eq_true'] at this
        rw [this]
        rfl
  cases allB textI a <;> cases allB textI b <;> exact hj
end Go.Proofs.YtmdnomeelkmaoaaDoor.Pure
