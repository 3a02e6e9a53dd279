/- The row and the tied card of the law DechunkPieces: at every input that its row speaks of, the call returns true; each argument reads behind it as it read before. The listed variables are tied to the program's text by the given tie. -/
import Derived.Test.YtmmbpbgcobmifaaDoorZDechunkPiecesP10
import Derived.Test.YtmmbpbgcobmifaaDoorZDechunkPiecesP8
import Derived.Test.YtmmbpbgcobmifaaDoorRows
import Derived.Test.YtmmbpbgcobmifaaDoorCards
import Derived.Test.YtmmbpbgcobmifaaDoorTie
import Derived.WalkKit
import Derived.ProofKit
import Derived.OpenShut
import Derived.ShutString
import Derived.ChangeOld
import Derived.Below
import Derived.SizedLaws
import Derived.LaidMore
import Derived.Lay
import Derived.SevenTiedAt
import Derived.LaidSub
import Derived.Stop.Joined
namespace Go.Proofs.YtmmbpbgcobmifaaDoorH
end Go.Proofs.YtmmbpbgcobmifaaDoorH
namespace Go.Proofs.YtmmbpbgcobmifaaDoor.Pz
end Go.Proofs.YtmmbpbgcobmifaaDoor.Pz
namespace Go.Proofs.YtmmbpbgcobmifaaDoorW.PrintWords
end Go.Proofs.YtmmbpbgcobmifaaDoorW.PrintWords
section
namespace Go.Proofs.YtmmbpbgcobmifaaDoor.dechunkPieces
open Go.ChangeShapes Go.WideShapes Go.ChangeAt Go.RowKit
open Go.ChangeMaps (open_string shut_string)
open Go.Proofs.YtmmbpbgcobmifaaDoorH Go.Proofs.YtmmbpbgcobmifaaDoor.Pz Go.Proofs.YtmmbpbgcobmifaaDoorW.PrintWords
theorem laidOut : laidOutB Tryd.prog = true := by kernel_rfl
theorem own : ownKnob Tryd.prog.godebug = none := by kernel_rfl
set_option maxRecDepth 100000 in
theorem lifted (os : Os) (started : os.Started) (H : Type) (enc : TypeId × Value → H) :
    ReturnsInHanded {} Tryd.checked os 6 .any (fun w args => (Rows.dechunkPiecesSpec.pre enc Tryd.prog Tryd.f6 Rows.dechunkPiecesRow.domain false w args ∧ laidMetH Tryd.prog Rows.dechunkPiecesRow.laid w) ∧ sizedMet enc Tryd.prog Tryd.f6 (OpenSpec.ofChange Rows.dechunkPiecesSpec) false w args)
      (Rows.dechunkPiecesSpec.post enc Tryd.prog Tryd.f6 false true false false) := by
  refine returns_and_shaped (C := Tryd.checked) (X := fun w _ => laidMetH Tryd.prog Rows.dechunkPiecesRow.laid w) (fun _ _ _ hh h => h.of_heap hh) own started (by kernel_rfl) Tryd.func6
    (ChangeSpec.witness_shaped (enc := enc) (C := Tryd.checked) (os := os) (X := fun w _ => laidMetH Tryd.prog Rows.dechunkPiecesRow.laid w) false (World.laidAll Tryd.prog os Rows.dechunkPiecesRow.laid) #[.agg #[.int .i64 0, .int .i64 0, .int .i64 0], .slice none 0 0] 8 (World.laidAll_os _ _ _)
      (World.shaped_of_ZipB (by kernel_rfl) (by kernel_rfl)) (by kernel_rfl) (by kernel_rfl) (by kernel_rfl)
      (by rw [MakeChecks.laidMetH_plain _ _ _ (by kernel_rfl)]; exact laidMet_laidAll _ (by kernel_rfl) (by kernel_rfl))) ?_
  intro W base args ds gs before hval0 hW _ hsz0 hL hShp _
  have hG := YtmmbpbgcobmifaaDoorH.tabOk_of_laid (L := Rows.dechunkPiecesRow.laid) hL (by kernel_rfl) (by kernel_rfl) hShp
  have hsz : (DataW.weightsEach Tryd.prog (Tryd.f6.params.toList ++ Rows.dechunkPiecesSpec.plain.varTypes Tryd.prog) (ds ++ gs)).all (· ≤ reachBytes) = true := hsz0
  have hval : ∀ (j : Nat) t v, Tryd.f6.params[j]? = some t → args[j]? = some v → Value.okWide Tryd.prog W .any base t v := hval0
  have hW' := hW
  obtain ⟨p, q, hA0, hV, rfl, _, _⟩ := hW
  have hA : DataW.TrodAll enc Tryd.prog W 0 (fun _ => true) true Tryd.f6.params.toList args.toList ds p := hA0
  rw [Tryd.params6] at hA hval hsz
  obtain ⟨v0, vs0, d0, ds0, p0, q0, hargs, rfl, rfl, h0, r0⟩ := trodAll_cons hA
  obtain ⟨v1, vs1, d1, ds1, p1, q1, rfl, rfl, rfl, h1, r1⟩ := trodAll_cons r0
  obtain ⟨rfl, rfl, rfl⟩ := trodAll_nil r1
  obtain rfl : args = #[v0, v1] := by cases args; simp_all
  obtain ⟨rfl, rfl⟩ := trodVars_none hV
  have k0 := h0
  have lt0 : ∀ x ∈ p0, x.block < W.heap.size := by obtain ⟨m, hm⟩ := k0; exact DataW.trod_lt m _ _ _ hm
  obtain ⟨cs0, rfl, _⟩ := okWide_struct Tryd.underlying23 (hval 0 23 v0 rfl rfl)
  obtain ⟨fuel0, hf0⟩ := h0
  obtain ⟨x0, y0, z0, he0', w0⟩ := lim_open hf0 (light_of hsz (j := 0) (t := 23) rfl rfl)
  have he0 : cs0 = _ := he0'
  subst he0
  have k1 := h1
  have lt1 : ∀ x ∈ p1, x.block < W.heap.size := by obtain ⟨m, hm⟩ := k1; exact DataW.trod_lt m _ _ _ hm
  obtain ⟨A1, len1, c1, rfl⟩ := okWide_slice Tryd.underlying48 (hval 1 48 v1 rfl rfl)
  obtain ⟨l1, he1, hc1, hr1, w1⟩ : ∃ l : (List (List Int)), len1 = l.length ∧ l.length ≤ c1 ∧ Kd.C (Kd.slice 5 (Kd.int .u8)) W A1 l.length l ∧ (l.length * 24 ≤ 140737488351232 ∧ ∀ y1 ∈ l, (y1.length * 1 ≤ 140737488351232 ∧ ∀ y2 ∈ y1, (Lit.int .u8 y2).wf = true)) := by
    obtain ⟨fuel, hf⟩ := h1
    obtain ⟨l, hK, hg⟩ := (Opens.slice (Opens.slice (Opens.int Tryd.underlying5 (by kernel_rfl)) Tryd.underlying24 (by kernel_rfl) (B := 1) (by kernel_rfl)) Tryd.underlying48 (by kernel_rfl) (B := 24) (by kernel_rfl)).open_ hf (light_of hsz (j := 1) (t := 48) rfl rfl)
    obtain ⟨A', c', e, hle, hC⟩ := hK
    simp [Value.cells] at e
    obtain ⟨rfl, rfl, rfl⟩ := e
    exact ⟨l, rfl, hle, hC, hg⟩
  subst he1
  clear hA0 hval0 hsz0 hsz
  obtain hp := Pure.DechunkPieces x0 y0 z0 l1 w0 w1
  refine (catchpitlaw09_DechunkPieces.calls x0 y0 z0 A1 c1 l1 true W hr1 hc1 hG hp).mono fun e W' ⟨he, bel⟩ => ?_
  subst he
  exact ⟨_, rfl, _, _, _, [], _, [], hW', trodAll_mk1 (shut_bool Tryd.underlying4 _), (trodAll_cons_mk (Below.trod laidOut (by kernel_rfl) (of_decide_eq_true (by kernel_rfl)) k0 bel lt0) (trodAll_cons_mk (Below.trod laidOut (by kernel_rfl) (of_decide_eq_true (by kernel_rfl)) k1 bel lt1) trodAll_mk0)), rfl, bel.frame _, fun h => by cases h⟩
theorem over : Rows.dechunkPiecesRow.holds Tryd.pinned (OpenSpec.ofChange Rows.dechunkPiecesSpec) :=
  OpenClaim.holds_of_wide 6 Tryd.f6 rfl rfl rfl rfl rfl rfl rfl ⟨rfl, rfl, rfl, rfl, rfl⟩ rfl rfl rfl rfl rfl (by kernel_rfl) Tryd.func6 (by kernel_rfl)
    (of_decide_eq_true (by kernel_rfl)) (by unfold Func.isWrapper; first | (rw [if_pos (by decide +kernel)]; kernel_rfl) | (rw [if_neg (by decide +kernel)]; exact ⟨rfl, rfl⟩))
    (fun os started H enc _ => lifted os started H enc)
theorem card : Rows.DechunkPiecesCardSaid :=
  Claim7.holds_tied_plain_at .later [] [.data, .data, .pinned] true (true, "6ba35a767f24765752376922994358ab233ab8fbd8ec8dd403f9bab52b247d76") true over (fun _ h => by cases h) (by kernel_rfl) (fun _ h => by cases h) dechunkPieces_row_tie rfl ⟨rfl, rfl⟩ (by kernel_rfl) rfl
    (fun f fn hf hfn => by
      obtain rfl : f = 6 := Option.some.inj ((show Tryd.prog.funcNamed "catchpit/catchpitlaw09.DechunkPieces" = some 6 by kernel_rfl).symm.trans hf) |>.symm
      obtain rfl : fn = Tryd.f6 := (Option.some.inj (Tryd.func6.symm.trans hfn)).symm
      exact ⟨by kernel_rfl, fun j t ht => by
        rw [Tryd.params6] at ht
        have hm : t ∈ [23, 48] := by have hq := Array.mem_of_getElem? ht; simp at hq ⊢; omega
        have hall : ([23, 48].all fun u => !Tryd.prog.wantsStandIn u) = true := by kernel_rfl
        exact (show Tryd.prog.wantsStandIn t = false by simpa using List.all_eq_true.1 hall t hm)⟩)
    (by kernel_rfl)
end Go.Proofs.YtmmbpbgcobmifaaDoor.dechunkPieces
namespace Go.Proofs.YtmmbpbgcobmifaaDoor
theorem dechunkPieces_card_holds : Rows.DechunkPiecesCardSaid := dechunkPieces.card
end Go.Proofs.YtmmbpbgcobmifaaDoor
end
