/- The row and the tied card of the law FramingNeverBoth: at every input that its row speaks of, the call returns true; each argument reads behind it as it read before. The listed variables are tied to the program's text by the given tie. -/
import Derived.Test.YtoanmbhenmlboaaDoorZFramingNeverBothP8
import Derived.Test.YtoanmbhenmlboaaDoorRows
import Derived.Test.YtoanmbhenmlboaaDoorCards
import Derived.Test.YtoanmbhenmlboaaDoorTie
import Derived.WalkKit
import Derived.ProofKit
import Derived.OpenShut
import Derived.ShutString
import Derived.ChangeOld
import Derived.Below
import Derived.SizedLaws
import Derived.LaidMore
import Derived.Lay
import Derived.SevenTiedAt
import Derived.LaidSub
import Derived.Stop.Joined
section
namespace Go.Proofs.YtoanmbhenmlboaaDoor.framingNeverBoth
open Go.ChangeShapes Go.WideShapes Go.ChangeAt Go.RowKit
open Go.ChangeMaps (open_string shut_string)
open Go.Proofs.YtoanmbhenmlboaaDoorH Go.Proofs.YtoanmbhenmlboaaDoor.Ph Go.Proofs.YtoanmbhenmlboaaDoorW.PrintWords
theorem laidOut : laidOutB Tryd.prog = true := by kernel_rfl
theorem own : ownKnob Tryd.prog.godebug = none := by kernel_rfl
set_option maxRecDepth 100000 in
theorem lifted (os : Os) (started : os.Started) (H : Type) (enc : TypeId × Value → H) :
    ReturnsInHanded {} Tryd.checked os 9 .any (fun w args => (Rows.framingNeverBothSpec.pre enc Tryd.prog Tryd.f9 Rows.framingNeverBothRow.domain false w args ∧ laidMetH Tryd.prog Rows.framingNeverBothRow.laid w) ∧ sizedMet enc Tryd.prog Tryd.f9 (OpenSpec.ofChange Rows.framingNeverBothSpec) false w args)
      (Rows.framingNeverBothSpec.post enc Tryd.prog Tryd.f9 false true false false) := by
  refine returns_and_shaped (C := Tryd.checked) (X := fun w _ => laidMetH Tryd.prog Rows.framingNeverBothRow.laid w) (fun _ _ _ hh h => h.of_heap hh) own started (by kernel_rfl) Tryd.func9
    (ChangeSpec.witness_shaped (enc := enc) (C := Tryd.checked) (os := os) (X := fun w _ => laidMetH Tryd.prog Rows.framingNeverBothRow.laid w) false (World.laidAll Tryd.prog os Rows.framingNeverBothRow.laid) #[.string ByteArray.empty, .int .i64 0, .slice none 0 0] 8 (World.laidAll_os _ _ _)
      (World.shaped_of_ZipB (by kernel_rfl) (by kernel_rfl)) (by kernel_rfl) (by kernel_rfl) (by kernel_rfl)
      (by rw [MakeChecks.laidMetH_plain _ _ _ (by kernel_rfl)]; exact laidMet_laidAll _ (by kernel_rfl) (by kernel_rfl))) ?_
  intro W base args ds gs before hval0 hW _ hsz0 hL hShp _
  have hG := YtoanmbhenmlboaaDoorH.tabOk_of_laid (L := Rows.framingNeverBothRow.laid) hL (by kernel_rfl) (by kernel_rfl) hShp
  have hsz : (DataW.weightsEach Tryd.prog (Tryd.f9.params.toList ++ Rows.framingNeverBothSpec.plain.varTypes Tryd.prog) (ds ++ gs)).all (· ≤ reachBytes) = true := hsz0
  have hval : ∀ (j : Nat) t v, Tryd.f9.params[j]? = some t → args[j]? = some v → Value.okWide Tryd.prog W .any base t v := hval0
  have hW' := hW
  obtain ⟨p, q, hA0, hV, rfl, _, _⟩ := hW
  have hA : DataW.TrodAll enc Tryd.prog W 0 (fun _ => true) true Tryd.f9.params.toList args.toList ds p := hA0
  rw [Tryd.params9] at hA hval hsz
  obtain ⟨v0, vs0, d0, ds0, p0, q0, hargs, rfl, rfl, h0, r0⟩ := trodAll_cons hA
  obtain ⟨v1, vs1, d1, ds1, p1, q1, rfl, rfl, rfl, h1, r1⟩ := trodAll_cons r0
  obtain ⟨v2, vs2, d2, ds2, p2, q2, rfl, rfl, rfl, h2, r2⟩ := trodAll_cons r1
  obtain ⟨rfl, rfl, rfl⟩ := trodAll_nil r2
  obtain rfl : args = #[v0, v1, v2] := by cases args; simp_all
  obtain ⟨rfl, rfl⟩ := trodVars_none hV
  obtain ⟨a0, rfl, rfl, rfl, y0⟩ := open_string Tryd.underlying9 (hval 0 9 v0 rfl rfl) h0
  have w0 : a0.size ≤ 140737488351232 := by
    have z := sized_string hsz (j := 0) (t := 9) rfl rfl
    rw [Array.length_toList] at z
    exact z
  obtain ⟨a1, rfl, rfl, rfl, w1⟩ := open_int Tryd.underlying3 (hval 1 3 v1 rfl rfl) h1
  have k2 := h2
  have lt2 : ∀ x ∈ p2, x.block < W.heap.size := by obtain ⟨m, hm⟩ := k2; exact DataW.trod_lt m _ _ _ hm
  obtain ⟨A2, len2, c2, rfl⟩ := okWide_slice Tryd.underlying29 (hval 2 29 v2 rfl rfl)
  obtain ⟨l2, he2, hc2, hr2, w2⟩ : ∃ l : (List S71), len2 = l.length ∧ l.length ≤ c2 ∧ Kd.C k71 W A2 l.length l ∧ (l.length * 32 ≤ 140737488351232 ∧ ∀ y ∈ l, (y.f0.size ≤ 140737488351232 ∧ y.f1.size ≤ 140737488351232)) := by
    obtain ⟨fuel, hf⟩ := h2
    obtain ⟨l, hK, hg⟩ := (Opens.slice (Opens.iso (Opens.struct2 (Opens.string Tryd.underlying9 (by kernel_rfl)) (Opens.string Tryd.underlying9 (by kernel_rfl)) Tryd.underlying71 rfl rfl (by kernel_rfl)) (fun x : S71 => (x.f0, x.f1)) (fun y => ⟨y.1, y.2⟩) (fun _ => rfl)) Tryd.underlying29 (by kernel_rfl) (B := 32) (by kernel_rfl)).open_ hf (light_of hsz (j := 2) (t := 29) rfl rfl)
    obtain ⟨A', c', e, hle, hC⟩ := hK
    simp [Value.cells] at e
    obtain ⟨rfl, rfl, rfl⟩ := e
    exact ⟨l, rfl, hle, hC, hg⟩
  subst he2
  clear hA0 hval0 hsz0 hsz
  obtain hp := Pure.FramingNeverBoth a0 a1 l2 w0 w1 w2
  refine (catchpitlaw11_FramingNeverBoth.calls a0 a1 A2 c2 l2 true W hr2 hc2 hG hp).mono fun e W' ⟨he, bel⟩ => ?_
  subst he
  exact ⟨_, rfl, _, _, _, [], _, [], hW', trodAll_mk1 (shut_bool Tryd.underlying4 _), (trodAll_cons_mk (shut_string Tryd.underlying9 y0) (trodAll_cons_mk (shut_int Tryd.underlying3 w1) (trodAll_cons_mk (Below.trod laidOut (by kernel_rfl) (of_decide_eq_true (by kernel_rfl)) k2 bel lt2) trodAll_mk0))), rfl, bel.frame _, fun h => by cases h⟩
theorem over : Rows.framingNeverBothRow.holds Tryd.pinned (OpenSpec.ofChange Rows.framingNeverBothSpec) :=
  OpenClaim.holds_of_wide 9 Tryd.f9 rfl rfl rfl rfl rfl rfl rfl ⟨rfl, rfl, rfl, rfl, rfl⟩ rfl rfl rfl rfl rfl (by kernel_rfl) Tryd.func9 (by kernel_rfl)
    (of_decide_eq_true (by kernel_rfl)) (by unfold Func.isWrapper; first | (rw [if_pos (by decide +kernel)]; kernel_rfl) | (rw [if_neg (by decide +kernel)]; exact ⟨rfl, rfl⟩))
    (fun os started H enc _ => lifted os started H enc)
theorem card : Rows.FramingNeverBothCardSaid :=
  Claim7.holds_tied_plain_at .later [] [.data, .data, .pinned] true (true, "d7a25b2a201ab114acfe3a6338a17043fe0221c03c01696f96c8c4a485cc7c93") false over (fun _ h => by cases h) (by kernel_rfl) (fun _ h => by cases h) framingNeverBoth_row_tie rfl ⟨rfl, rfl⟩ (by kernel_rfl) rfl
    (fun f fn hf hfn => by
      obtain rfl : f = 9 := Option.some.inj ((show Tryd.prog.funcNamed "catchpit/catchpitlaw11.FramingNeverBoth" = some 9 by kernel_rfl).symm.trans hf) |>.symm
      obtain rfl : fn = Tryd.f9 := (Option.some.inj (Tryd.func9.symm.trans hfn)).symm
      exact ⟨by kernel_rfl, fun j t ht => by
        rw [Tryd.params9] at ht
        have hm : t ∈ [9, 3, 29] := by have hq := Array.mem_of_getElem? ht; simp at hq ⊢; omega
        have hall : ([9, 3, 29].all fun u => !Tryd.prog.wantsStandIn u) = true := by kernel_rfl
        exact (show Tryd.prog.wantsStandIn t = false by simpa using List.all_eq_true.1 hall t hm)⟩)
    (by kernel_rfl)
end Go.Proofs.YtoanmbhenmlboaaDoor.framingNeverBoth
namespace Go.Proofs.YtoanmbhenmlboaaDoor
theorem framingNeverBoth_card_holds : Rows.FramingNeverBothCardSaid := framingNeverBoth.card
end Go.Proofs.YtoanmbhenmlboaaDoor
end
