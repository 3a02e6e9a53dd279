/- The row and the tied card of the law ReuseReasons: at every input that its row speaks of, the call returns true; each argument reads behind it as it read before. The listed variables are tied to the program's text by the given tie. -/
import Derived.Test.YtofegjgiocljlaaDoorZReuseReasonsP4
import Derived.Test.YtofegjgiocljlaaDoorZReuseReasonsP5
import Derived.Test.YtofegjgiocljlaaDoorRows
import Derived.Test.YtofegjgiocljlaaDoorCards
import Derived.Test.YtofegjgiocljlaaDoorTie
import Derived.WalkKit
import Derived.ProofKit
import Derived.OpenShut
import Derived.ShutString
import Derived.ChangeOld
import Derived.Below
import Derived.SizedLaws
import Derived.LaidMore
import Derived.Lay
import Derived.SevenTiedAt
import Derived.LaidSub
import Derived.Stop.Joined
section
namespace Go.Proofs.YtofegjgiocljlaaDoor.reuseReasons
open Go.ChangeShapes Go.WideShapes Go.ChangeAt Go.RowKit
open Go.ChangeMaps (open_string shut_string)
open Go.Proofs.YtofegjgiocljlaaDoorH Go.Proofs.YtofegjgiocljlaaDoor.Pg Go.Proofs.YtofegjgiocljlaaDoorW.PrintWords
theorem laidOut : laidOutB Tryd.prog = true := by kernel_rfl
theorem own : ownKnob Tryd.prog.godebug = none := by kernel_rfl
set_option maxRecDepth 100000 in
theorem lifted (os : Os) (started : os.Started) (H : Type) (enc : TypeId × Value → H) :
    ReturnsInHanded {} Tryd.checked os 7 .any (fun w args => (Rows.reuseReasonsSpec.pre enc Tryd.prog Tryd.f7 Rows.reuseReasonsRow.domain false w args ∧ laidMetH Tryd.prog Rows.reuseReasonsRow.laid w) ∧ sizedMet enc Tryd.prog Tryd.f7 (OpenSpec.ofChange Rows.reuseReasonsSpec) false w args)
      (Rows.reuseReasonsSpec.post enc Tryd.prog Tryd.f7 false true false false) := by
  refine returns_and_shaped (C := Tryd.checked) (X := fun w _ => laidMetH Tryd.prog Rows.reuseReasonsRow.laid w) (fun _ _ _ hh h => h.of_heap hh) own started (by kernel_rfl) Tryd.func7
    (ChangeSpec.witness_shaped (enc := enc) (C := Tryd.checked) (os := os) (X := fun w _ => laidMetH Tryd.prog Rows.reuseReasonsRow.laid w) false (World.laidAll Tryd.prog os Rows.reuseReasonsRow.laid) #[.int .u8 0] 8 (World.laidAll_os _ _ _)
      (World.shaped_of_ZipB (by kernel_rfl) (by kernel_rfl)) (by kernel_rfl) (by kernel_rfl) (by kernel_rfl)
      (by rw [MakeChecks.laidMetH_plain _ _ _ (by kernel_rfl)]; exact laidMet_laidAll _ (by kernel_rfl) (by kernel_rfl))) ?_
  intro W base args ds gs before hval0 hW _ hsz0 hL hShp _
  have hG := YtofegjgiocljlaaDoorH.tabOk_of_laid (L := Rows.reuseReasonsRow.laid) hL (by kernel_rfl) (by kernel_rfl) hShp
  have hsz : (DataW.weightsEach Tryd.prog (Tryd.f7.params.toList ++ Rows.reuseReasonsSpec.plain.varTypes Tryd.prog) (ds ++ gs)).all (· ≤ reachBytes) = true := hsz0
  have hval : ∀ (j : Nat) t v, Tryd.f7.params[j]? = some t → args[j]? = some v → Value.okWide Tryd.prog W .any base t v := hval0
  have hW' := hW
  obtain ⟨p, q, hA0, hV, rfl, _, _⟩ := hW
  have hA : DataW.TrodAll enc Tryd.prog W 0 (fun _ => true) true Tryd.f7.params.toList args.toList ds p := hA0
  rw [Tryd.params7] at hA hval hsz
  obtain ⟨v0, vs0, d0, ds0, p0, q0, hargs, rfl, rfl, h0, r0⟩ := trodAll_cons hA
  obtain ⟨rfl, rfl, rfl⟩ := trodAll_nil r0
  obtain rfl : args = #[v0] := by cases args; simp_all
  obtain ⟨rfl, rfl⟩ := trodVars_none hV
  obtain ⟨a0, rfl, rfl, rfl, w0⟩ := open_int Tryd.underlying5 (hval 0 5 v0 rfl rfl) h0
  clear hA0 hval0 hsz0 hsz
  obtain hp := Pure.ReuseReasons a0 w0
  refine (catchpitlaw25_ReuseReasons.calls a0 true W  hG hp).mono fun e W' ⟨he, bel⟩ => ?_
  subst he
  exact ⟨_, rfl, _, _, _, [], _, [], hW', trodAll_mk1 (shut_bool Tryd.underlying4 _), (trodAll_cons_mk (shut_int Tryd.underlying5 w0) trodAll_mk0), rfl, bel.frame _, fun h => by cases h⟩
theorem over : Rows.reuseReasonsRow.holds Tryd.pinned (OpenSpec.ofChange Rows.reuseReasonsSpec) :=
  OpenClaim.holds_of_wide 7 Tryd.f7 rfl rfl rfl rfl rfl rfl rfl ⟨rfl, rfl, rfl, rfl, rfl⟩ rfl rfl rfl rfl rfl (by kernel_rfl) Tryd.func7 (by kernel_rfl)
    (of_decide_eq_true (by kernel_rfl)) (by unfold Func.isWrapper; first | (rw [if_pos (by decide +kernel)]; kernel_rfl) | (rw [if_neg (by decide +kernel)]; exact ⟨rfl, rfl⟩))
    (fun os started H enc _ => lifted os started H enc)
theorem card : Rows.ReuseReasonsCardSaid :=
  Claim7.holds_tied_plain_at .later [] [.data, .data, .pinned] true (true, "401a7b574105a336cea074d90596666bcd41ec0d3cb7302fdf639f0f80970048") false over (fun _ h => by cases h) (by kernel_rfl) (fun _ h => by cases h) reuseReasons_row_tie rfl ⟨rfl, rfl⟩ (by kernel_rfl) rfl
    (fun f fn hf hfn => by
      obtain rfl : f = 7 := Option.some.inj ((show Tryd.prog.funcNamed "catchpit/catchpitlaw25.ReuseReasons" = some 7 by kernel_rfl).symm.trans hf) |>.symm
      obtain rfl : fn = Tryd.f7 := (Option.some.inj (Tryd.func7.symm.trans hfn)).symm
      exact ⟨by kernel_rfl, fun j t ht => by
        rw [Tryd.params7] at ht
        have hm : t ∈ [5] := by have hq := Array.mem_of_getElem? ht; simp at hq ⊢; omega
        have hall : ([5].all fun u => !Tryd.prog.wantsStandIn u) = true := by kernel_rfl
        exact (show Tryd.prog.wantsStandIn t = false by simpa using List.all_eq_true.1 hall t hm)⟩)
    (by kernel_rfl)
end Go.Proofs.YtofegjgiocljlaaDoor.reuseReasons
namespace Go.Proofs.YtofegjgiocljlaaDoor
theorem reuseReasons_card_holds : Rows.ReuseReasonsCardSaid := reuseReasons.card
end Go.Proofs.YtofegjgiocljlaaDoor
end
