/- The row and the tied card of the law FieldGets: at every input that its row speaks of, the call returns true; each argument reads behind it as it read before. The listed variables are tied to the program's text by the given tie. -/
import Derived.Test.YtdkecmjoenfjdaaDoorRows
import Derived.Test.YtdkecmjoenfjdaaDoorCards
import Derived.Test.YtdkecmjoenfjdaaDoorTie
import Derived.Test.YtdkecmjoenfjdaaDoorPrx14
import Derived.Test.YtdkecmjoenfjdaaDoorPureFieldGets
import Derived.Test.YtdkecmjoenfjdaaDoorHLaid
import Derived.Test.YtdkecmjoenfjdaaDoorHOpen
import Derived.Test.YtdkecmjoenfjdaaDoorHShaped
import Derived.WalkKit
import Derived.ProofKit
import Derived.OpenShut
import Derived.ShutString
import Derived.ChangeOld
import Derived.Below
import Derived.SizedLaws
import Derived.LaidMore
import Derived.Lay
import Derived.SevenTiedAt
import Derived.LaidSub
import Derived.Stop.Joined
namespace Go.Proofs.YtdkecmjoenfjdaaDoor.fieldGets
open Go.ChangeShapes Go.WideShapes Go.ChangeAt Go.RowKit
open Go.ChangeMaps (open_string shut_string)
open Go.Proofs.YtdkecmjoenfjdaaDoorH Go.Proofs.YtdkecmjoenfjdaaDoor.Pr Go.Proofs.YtdkecmjoenfjdaaDoorW.PrintWords
theorem laidOut : laidOutB Tryd.prog = true := by kernel_rfl
theorem own : ownKnob Tryd.prog.godebug = none := by kernel_rfl
set_option maxRecDepth 100000 in
theorem lifted (os : Os) (started : os.Started) (H : Type) (enc : TypeId × Value → H) :
    ReturnsInHanded {} Tryd.checked os 6 .any (fun w args => (Rows.fieldGetsSpec.pre enc Tryd.prog Tryd.f6 Rows.fieldGetsRow.domain false w args ∧ laidMetH Tryd.prog Rows.fieldGetsRow.laid w) ∧ sizedMet enc Tryd.prog Tryd.f6 (OpenSpec.ofChange Rows.fieldGetsSpec) false w args)
      (Rows.fieldGetsSpec.post enc Tryd.prog Tryd.f6 false true false false) := by
  refine returns_and_shaped (C := Tryd.checked) (X := fun w _ => laidMetH Tryd.prog Rows.fieldGetsRow.laid w) (fun _ _ _ hh h => h.of_heap hh) own started (by kernel_rfl) Tryd.func6
    (ChangeSpec.witness_shaped (enc := enc) (C := Tryd.checked) (os := os) (X := fun w _ => laidMetH Tryd.prog Rows.fieldGetsRow.laid w) false (World.laidAll Tryd.prog os Rows.fieldGetsRow.laid) #[.slice none 0 0, .string ByteArray.empty, .slice none 0 0] 8 (World.laidAll_os _ _ _)
      (World.shaped_of_ZipB (by kernel_rfl) (by kernel_rfl)) (by kernel_rfl) (by kernel_rfl) (by kernel_rfl)
      (by rw [MakeChecks.laidMetH_plain _ _ _ (by kernel_rfl)]; exact laidMet_laidAll _ (by kernel_rfl) (by kernel_rfl))) ?_
  intro W base args ds gs before hval0 hW _ hsz0 hL hShp _
  have hG := YtdkecmjoenfjdaaDoorH.tabOk_of_laid (L := Rows.fieldGetsRow.laid) hL (by kernel_rfl) (by kernel_rfl) hShp
  have hsz : (DataW.weightsEach Tryd.prog (Tryd.f6.params.toList ++ Rows.fieldGetsSpec.plain.varTypes Tryd.prog) (ds ++ gs)).all (· ≤ reachBytes) = true := hsz0
  have hval : ∀ (j : Nat) t v, Tryd.f6.params[j]? = some t → args[j]? = some v → Value.okWide Tryd.prog W .any base t v := hval0
  have hW' := hW
  obtain ⟨p, q, hA0, hV, rfl, _, _⟩ := hW
  have hA : DataW.TrodAll enc Tryd.prog W 0 (fun _ => true) true Tryd.f6.params.toList args.toList ds p := hA0
  rw [Tryd.params6] at hA hval hsz
  obtain ⟨v0, vs0, d0, ds0, p0, q0, hargs, rfl, rfl, h0, r0⟩ := trodAll_cons hA
  obtain ⟨v1, vs1, d1, ds1, p1, q1, rfl, rfl, rfl, h1, r1⟩ := trodAll_cons r0
  obtain ⟨v2, vs2, d2, ds2, p2, q2, rfl, rfl, rfl, h2, r2⟩ := trodAll_cons r1
  obtain ⟨rfl, rfl, rfl⟩ := trodAll_nil r2
  obtain rfl : args = #[v0, v1, v2] := by cases args; simp_all
  obtain ⟨rfl, rfl⟩ := trodVars_none hV
  have k0 := h0
  have lt0 : ∀ x ∈ p0, x.block < W.heap.size := by obtain ⟨m, hm⟩ := k0; exact DataW.trod_lt m _ _ _ hm
  obtain ⟨A0, len0, c0, rfl⟩ := okWide_slice Tryd.underlying36 (hval 0 36 v0 rfl rfl)
  obtain ⟨l0, he0, hc0, hr0, w0⟩ : ∃ l : (List S24), len0 = l.length ∧ l.length ≤ c0 ∧ Kd.C k24 W A0 l.length l ∧ (l.length * 32 ≤ 140737488351232 ∧ ∀ y ∈ l, (y.f0.size ≤ 140737488351232 ∧ y.f1.size ≤ 140737488351232)) := by
    obtain ⟨fuel, hf⟩ := h0
    obtain ⟨l, hK, hg⟩ := (Opens.slice (Opens.iso (Opens.struct2 (Opens.string Tryd.underlying9 (by kernel_rfl)) (Opens.string Tryd.underlying9 (by kernel_rfl)) Tryd.underlying24 rfl rfl (by kernel_rfl)) (fun x : S24 => (x.f0, x.f1)) (fun y => ⟨y.1, y.2⟩) (fun _ => rfl)) Tryd.underlying36 (by kernel_rfl) (B := 32) (by kernel_rfl)).open_ hf (light_of hsz (j := 0) (t := 36) rfl rfl)
    obtain ⟨A', c', e, hle, hC⟩ := hK
    simp [Value.cells] at e
    obtain ⟨rfl, rfl, rfl⟩ := e
    exact ⟨l, rfl, hle, hC, hg⟩
  subst he0
  obtain ⟨a1, rfl, rfl, rfl, y1⟩ := open_string Tryd.underlying9 (hval 1 9 v1 rfl rfl) h1
  have w1 : a1.size ≤ 140737488351232 := by
    have z := sized_string hsz (j := 1) (t := 9) rfl rfl
    rw [Array.length_toList] at z
    exact z
  have k2 := h2
  have lt2 : ∀ x ∈ p2, x.block < W.heap.size := by obtain ⟨m, hm⟩ := k2; exact DataW.trod_lt m _ _ _ hm
  obtain ⟨A2, len2, c2, rfl⟩ := okWide_slice Tryd.underlying37 (hval 2 37 v2 rfl rfl)
  obtain ⟨l2, he2, hc2, hr2, w2⟩ : ∃ l : (List ByteArray), len2 = l.length ∧ l.length ≤ c2 ∧ Kd.C Kd.string W A2 l.length l ∧ (l.length * 16 ≤ 140737488351232 ∧ ∀ y ∈ l, y.size ≤ 140737488351232) := by
    obtain ⟨fuel, hf⟩ := h2
    obtain ⟨l, hK, hg⟩ := (Opens.slice (Opens.string Tryd.underlying9 (by kernel_rfl)) Tryd.underlying37 (by kernel_rfl) (B := 16) (by kernel_rfl)).open_ hf (light_of hsz (j := 2) (t := 37) rfl rfl)
    obtain ⟨A', c', e, hle, hC⟩ := hK
    simp [Value.cells] at e
    obtain ⟨rfl, rfl, rfl⟩ := e
    exact ⟨l, rfl, hle, hC, hg⟩
  subst he2
  clear hA0 hval0 hsz0 hsz
  obtain ⟨k, hp⟩ := Pure.FieldGets l0 a1 l2 w0 w1 w2
  refine (catchpitlaw05_FieldGets.calls k A0 c0 l0 a1 A2 c2 l2 true W hr0 hc0 hr2 hc2 hG hp).mono fun e W' ⟨he, bel⟩ => ?_
  subst he
  exact ⟨_, rfl, _, _, _, [], _, [], hW', trodAll_mk1 (shut_bool Tryd.underlying4 _), (trodAll_cons_mk (Below.trod laidOut (by kernel_rfl) (of_decide_eq_true (by kernel_rfl)) k0 bel lt0) (trodAll_cons_mk (shut_string Tryd.underlying9 y1) (trodAll_cons_mk (Below.trod laidOut (by kernel_rfl) (of_decide_eq_true (by kernel_rfl)) k2 bel lt2) trodAll_mk0))), rfl, bel.frame _, fun h => by cases h⟩
theorem over : Rows.fieldGetsRow.holds Tryd.pinned (OpenSpec.ofChange Rows.fieldGetsSpec) :=
  OpenClaim.holds_of_wide 6 Tryd.f6 rfl rfl rfl rfl rfl rfl rfl ⟨rfl, rfl, rfl, rfl, rfl⟩ rfl rfl rfl rfl rfl (by kernel_rfl) Tryd.func6 (by kernel_rfl)
    (of_decide_eq_true (by kernel_rfl)) (by unfold Func.isWrapper; first | (rw [if_pos (by decide +kernel)]; kernel_rfl) | (rw [if_neg (by decide +kernel)]; exact ⟨rfl, rfl⟩))
    (fun os started H enc _ => lifted os started H enc)
theorem card : Rows.FieldGetsCardSaid :=
  Claim7.holds_tied_plain_at .later [] [.data, .data, .pinned] true (true, "2ba4103f92c02f6129f46a9f7962f10a59cc2de9d6764b53aa6443d6480489f4") false over (fun _ h => by cases h) (by kernel_rfl) (fun _ h => by cases h) fieldGets_row_tie rfl ⟨rfl, rfl⟩ (by kernel_rfl) rfl
    (fun f fn hf hfn => by
      obtain rfl : f = 6 := Option.some.inj ((show Tryd.prog.funcNamed "catchpit/catchpitlaw05.FieldGets" = some 6 by kernel_rfl).symm.trans hf) |>.symm
      obtain rfl : fn = Tryd.f6 := (Option.some.inj (Tryd.func6.symm.trans hfn)).symm
      exact ⟨by kernel_rfl, fun j t ht => by
        rw [Tryd.params6] at ht
        have hm : t ∈ [36, 9, 37] := by have hq := Array.mem_of_getElem? ht; simp at hq ⊢; omega
        have hall : ([36, 9, 37].all fun u => !Tryd.prog.wantsStandIn u) = true := by kernel_rfl
        exact (show Tryd.prog.wantsStandIn t = false by simpa using List.all_eq_true.1 hall t hm)⟩)
    (by kernel_rfl)
#print axioms card
end Go.Proofs.YtdkecmjoenfjdaaDoor.fieldGets
namespace Go.Proofs.YtdkecmjoenfjdaaDoor
/-- The card, under a short name, for the claim. -/
theorem fieldGets_card_holds : Rows.FieldGetsCardSaid := fieldGets.card
end Go.Proofs.YtdkecmjoenfjdaaDoor
