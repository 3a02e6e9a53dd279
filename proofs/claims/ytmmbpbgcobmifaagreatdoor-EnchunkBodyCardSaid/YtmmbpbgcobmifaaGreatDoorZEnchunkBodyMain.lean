/- The row and the tied card of the law EnchunkBody: at every input that its row speaks of, the call returns true; each argument reads behind it as it read before. The listed variables are tied to the program's text by the given tie. -/
import Derived.Test.YtmmbpbgcobmifaaGreatDoorZEnchunkBodyP8
import Derived.Test.YtmmbpbgcobmifaaGreatDoorZEnchunkBodyP9
import Derived.Test.YtmmbpbgcobmifaaGreatDoorRows
import Derived.Test.YtmmbpbgcobmifaaGreatDoorCards
import Derived.Test.YtmmbpbgcobmifaaGreatDoorTie
import Derived.WalkKit
import Derived.ProofKit
import Derived.OpenShut
import Derived.ShutString
import Derived.ChangeOld
import Derived.Below
import Derived.SizedLaws
import Derived.LaidMore
import Derived.Lay
import Derived.SevenTiedAt
import Derived.LaidSub
import Derived.Stop.Joined
namespace Go.Proofs.YtmmbpbgcobmifaaGreatDoorH
end Go.Proofs.YtmmbpbgcobmifaaGreatDoorH
namespace Go.Proofs.YtmmbpbgcobmifaaGreatDoor.Pf
end Go.Proofs.YtmmbpbgcobmifaaGreatDoor.Pf
namespace Go.Proofs.YtmmbpbgcobmifaaGreatDoorW.PrintWords
end Go.Proofs.YtmmbpbgcobmifaaGreatDoorW.PrintWords
namespace Go.Proofs.YtmmbpbgcobmifaaGreatDoor.Pr
end Go.Proofs.YtmmbpbgcobmifaaGreatDoor.Pr
section
namespace Go.Proofs.YtmmbpbgcobmifaaGreatDoor.enchunkBody
open Go.ChangeShapes Go.WideShapes Go.ChangeAt Go.RowKit
open Go.ChangeMaps (open_string shut_string)
open Go.Proofs.YtmmbpbgcobmifaaGreatDoorH Go.Proofs.YtmmbpbgcobmifaaGreatDoor.Pf Go.Proofs.YtmmbpbgcobmifaaGreatDoorW.PrintWords Go.Proofs.YtmmbpbgcobmifaaGreatDoor.Pr
theorem laidOut : laidOutB Tryz.prog = true := by kernel_rfl
theorem own : ownKnob Tryz.prog.godebug = none := by kernel_rfl
set_option maxRecDepth 100000 in
theorem lifted (os : Os) (started : os.Started) (H : Type) (enc : TypeId × Value → H) :
    ReturnsInHanded {} Tryz.checked os 3 .any (fun w args => (Rows.enchunkBodySpec.pre enc Tryz.prog Tryz.f3 Rows.enchunkBodyRow.domain false w args ∧ laidMetH Tryz.prog Rows.enchunkBodyRow.laid w) ∧ sizedMet enc Tryz.prog Tryz.f3 (OpenSpec.ofChange Rows.enchunkBodySpec) false w args)
      (Rows.enchunkBodySpec.post enc Tryz.prog Tryz.f3 false true false false) := by
  refine returns_and_shaped (C := Tryz.checked) (X := fun w _ => laidMetH Tryz.prog Rows.enchunkBodyRow.laid w) (fun _ _ _ hh h => h.of_heap hh) own started (by kernel_rfl) Tryz.func3
    (ChangeSpec.witness_shaped (enc := enc) (C := Tryz.checked) (os := os) (X := fun w _ => laidMetH Tryz.prog Rows.enchunkBodyRow.laid w) false (World.laidAll Tryz.prog os Rows.enchunkBodyRow.laid) #[.slice none 0 0, .slice none 0 0] 8 (World.laidAll_os _ _ _)
      (World.shaped_of_ZipB (by kernel_rfl) (by kernel_rfl)) (by kernel_rfl) (by kernel_rfl) (by kernel_rfl)
      (by rw [MakeChecks.laidMetH_plain _ _ _ (by kernel_rfl)]; exact laidMet_laidAll _ (by kernel_rfl) (by kernel_rfl))) ?_
  intro W base args ds gs before hval0 hW _ hsz0 hL hShp _
  have hG := YtmmbpbgcobmifaaGreatDoorH.tabOZ_of_laid (L := Rows.enchunkBodyRow.laid) hL (by kernel_rfl) (by kernel_rfl) (by kernel_rfl) hShp
  have hsz : (DataW.weightsEach Tryz.prog (Tryz.f3.params.toList ++ Rows.enchunkBodySpec.plain.varTypes Tryz.prog) (ds ++ gs)).all (· ≤ reachBytes) = true := hsz0
  have hval : ∀ (j : Nat) t v, Tryz.f3.params[j]? = some t → args[j]? = some v → Value.okWide Tryz.prog W .any base t v := hval0
  have hW' := hW
  obtain ⟨p, q, hA0, hV, rfl, _, _⟩ := hW
  have hA : DataW.TrodAll enc Tryz.prog W 0 (fun _ => true) true Tryz.f3.params.toList args.toList ds p := hA0
  rw [Tryz.params3] at hA hval hsz
  obtain ⟨v0, vs0, d0, ds0, p0, q0, hargs, rfl, rfl, h0, r0⟩ := trodAll_cons hA
  obtain ⟨v1, vs1, d1, ds1, p1, q1, rfl, rfl, rfl, h1, r1⟩ := trodAll_cons r0
  obtain ⟨rfl, rfl, rfl⟩ := trodAll_nil r1
  obtain rfl : args = #[v0, v1] := by cases args; simp_all
  obtain ⟨rfl, rfl⟩ := trodVars_none hV
  have k0 := h0
  have lt0 : ∀ x ∈ p0, x.block < W.heap.size := by obtain ⟨m, hm⟩ := k0; exact DataW.trod_lt m _ _ _ hm
  obtain ⟨A0, len0, c0, rfl⟩ := okWide_slice Tryz.underlying22 (hval 0 22 v0 rfl rfl)
  obtain ⟨l0, he0, hc0, hr0, w0⟩ : ∃ l : (List (List Int)), len0 = l.length ∧ l.length ≤ c0 ∧ Kd.C (Kd.slice 5 (Kd.int .u8)) W A0 l.length l ∧ (l.length * 24 ≤ 140737488351232 ∧ ∀ y1 ∈ l, (y1.length * 1 ≤ 140737488351232 ∧ ∀ y2 ∈ y1, (Lit.int .u8 y2).wf = true)) := by
    obtain ⟨fuel, hf⟩ := h0
    obtain ⟨l, hK, hg⟩ := (Opens.slice (Opens.slice (Opens.int Tryz.underlying5 (by kernel_rfl)) Tryz.underlying25 (by kernel_rfl) (B := 1) (by kernel_rfl)) Tryz.underlying22 (by kernel_rfl) (B := 24) (by kernel_rfl)).open_ hf (light_of hsz (j := 0) (t := 22) rfl rfl)
    obtain ⟨A', c', e, hle, hC⟩ := hK
    simp [Value.cells] at e
    obtain ⟨rfl, rfl, rfl⟩ := e
    exact ⟨l, rfl, hle, hC, hg⟩
  subst he0
  have k1 := h1
  have lt1 : ∀ x ∈ p1, x.block < W.heap.size := by obtain ⟨m, hm⟩ := k1; exact DataW.trod_lt m _ _ _ hm
  obtain ⟨A1, len1, c1, rfl⟩ := okWide_slice Tryz.underlying23 (hval 1 23 v1 rfl rfl)
  obtain ⟨l1, he1, hc1, hr1, w1⟩ : ∃ l : (List S28), len1 = l.length ∧ l.length ≤ c1 ∧ Kd.C k28 W A1 l.length l ∧ (l.length * 32 ≤ 140737488351232 ∧ ∀ y3 ∈ l, (y3.f0.size ≤ 140737488351232 ∧ y3.f1.size ≤ 140737488351232)) := by
    obtain ⟨fuel, hf⟩ := h1
    obtain ⟨l, hK, hg⟩ := (Opens.slice (Opens.iso (Opens.struct2 (Opens.string Tryz.underlying9 (by kernel_rfl)) (Opens.string Tryz.underlying9 (by kernel_rfl)) Tryz.underlying28 rfl rfl (by kernel_rfl)) (fun x : S28 => (x.f0, x.f1)) (fun y => ⟨y.1, y.2⟩) (fun _ => rfl)) Tryz.underlying23 (by kernel_rfl) (B := 32) (by kernel_rfl)).open_ hf (light_of hsz (j := 1) (t := 23) rfl rfl)
    obtain ⟨A', c', e, hle, hC⟩ := hK
    simp [Value.cells] at e
    obtain ⟨rfl, rfl, rfl⟩ := e
    exact ⟨l, rfl, hle, hC, hg⟩
  subst he1
  clear hA0 hval0 hsz0 hsz
  obtain hp := Pure.EnchunkBody l0 l1 w0 w1
  refine (catchpitlaw10_EnchunkBody.calls A0 c0 l0 A1 c1 l1 true W hr0 hc0 hr1 hc1 hG hp).mono fun e W' ⟨he, bel⟩ => ?_
  subst he
  exact ⟨_, rfl, _, _, _, [], _, [], hW', trodAll_mk1 (shut_bool Tryz.underlying4 _), (trodAll_cons_mk (Below.trod laidOut (by kernel_rfl) (of_decide_eq_true (by kernel_rfl)) k0 bel lt0) (trodAll_cons_mk (Below.trod laidOut (by kernel_rfl) (of_decide_eq_true (by kernel_rfl)) k1 bel lt1) trodAll_mk0)), rfl, bel.frame _, fun h => by cases h⟩
theorem over : Rows.enchunkBodyRow.holds Tryz.pinned (OpenSpec.ofChange Rows.enchunkBodySpec) :=
  OpenClaim.holds_of_wide 3 Tryz.f3 rfl rfl rfl rfl rfl rfl rfl ⟨rfl, rfl, rfl, rfl, rfl⟩ rfl rfl rfl rfl rfl (by kernel_rfl) Tryz.func3 (by kernel_rfl)
    (of_decide_eq_true (by kernel_rfl)) (by unfold Func.isWrapper; first | (rw [if_pos (by decide +kernel)]; kernel_rfl) | (rw [if_neg (by decide +kernel)]; exact ⟨rfl, rfl⟩))
    (fun os started H enc _ => lifted os started H enc)
theorem card : Rows.EnchunkBodyCardSaid :=
  Claim7.holds_tied_plain_at .later [] [.data, .data, .data, .data, .data, .pinned] true (true, "1595330e4fa909cf4e05666513844ad2b771543d69a391db63a6ddacfec9ba47") true over (fun _ h => by cases h) (by kernel_rfl) (fun _ h => by cases h) enchunkBody_row_tie rfl ⟨rfl, rfl⟩ (by kernel_rfl) rfl
    (fun f fn hf hfn => by
      obtain rfl : f = 3 := Option.some.inj ((show Tryz.prog.funcNamed "catchpit/catchpitlaw10.EnchunkBody" = some 3 by kernel_rfl).symm.trans hf) |>.symm
      obtain rfl : fn = Tryz.f3 := (Option.some.inj (Tryz.func3.symm.trans hfn)).symm
      exact ⟨by kernel_rfl, fun j t ht => by
        rw [Tryz.params3] at ht
        have hm : t ∈ [22, 23] := by have hq := Array.mem_of_getElem? ht; simp at hq ⊢; omega
        have hall : ([22, 23].all fun u => !Tryz.prog.wantsStandIn u) = true := by kernel_rfl
        exact (show Tryz.prog.wantsStandIn t = false by simpa using List.all_eq_true.1 hall t hm)⟩)
    (by kernel_rfl)
end Go.Proofs.YtmmbpbgcobmifaaGreatDoor.enchunkBody
namespace Go.Proofs.YtmmbpbgcobmifaaGreatDoor
theorem enchunkBody_card_holds : Rows.EnchunkBodyCardSaid := enchunkBody.card
end Go.Proofs.YtmmbpbgcobmifaaGreatDoor
end
