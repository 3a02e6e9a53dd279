import Derived.Test.YtoanmbhenmlboaaDoorZExpectNoneP5
import Derived.Test.YtoanmbhenmlboaaDoorZExpectNoneP1
import Derived.Test.YtoanmbhenmlboaaDoorRows
import Derived.LaidSub
import Derived.MakeChecks
import Derived.ProofKit
import Derived.OpenShut
import Derived.LaidMore
import Derived.Deep.Slices
import Derived.SizedLaws
import Derived.HandedShaped
import Derived.Handed
section
namespace Go.Proofs.YtoanmbhenmlboaaDoor.Ph
open Go.RowKit Go.Proofs.YtoanmbhenmlboaaDoorH Go.Proofs.YtoanmbhenmlboaaDoorW.PrintWords Go.Proofs.YtoanmbhenmlboaaDoorW.PrintLast Go.Proofs.YtoanmbhenmlboaaDoorW.PrintMore Go.Proofs.YtoanmbhenmlboaaDoor.Pr
def nExpect : ByteArray := ⟨#[69, 120, 112, 101, 99, 116]⟩
def wContinue : ByteArray := ⟨#[49, 48, 48, 45, 99, 111, 110, 116, 105, 110, 117, 101]⟩
theorem sumS_getE (n : ByteArray) : ∀ l : List Fld, sumS (getL l n) ≤ sumF l
  | [] => Nat.le_refl _
  | x :: l => by
    have ih := sumS_getE n l
    unfold getL at ih ⊢
    rw [sumF_cons]
    cases h : isB x n with
    | true => rw [List.filter_cons_of_pos (p := fun x => isB x n) h, List.map_cons, sumS_cons]; omega
    | false => rw [List.filter_cons_of_neg (p := fun x => isB x n) (by simp [h])]; omega
theorem expects_eq (l : List Fld) (hl : Small1 l) (hs : sumF l ≤ 3000) : framing_Expects.f l = some (hasB (itemsL (getL l nExpect)) wContinue) := by
  have hc := sumF_length l
  have h1 := sumS_getE nExpect l
  unfold framing_Expects.f
  show (field_Get.f l nExpect).bind _ = _
  rw [field_Get_eq l nExpect hl (by decide) (by omega), Option.bind_some]
  unfold list_Has.f
  rw [if_pos ⟨by decide, by omega⟩, Option.bind_some]
  rfl
def catchpitlaw20_ExpectNone.f (l0 : List Fld) (_l1 : List S41) : Option Bool := if l0.length ≤ 140737488351232 ∧ ∀ y ∈ l0, y.f0.size ≤ 140737488351232 ∧ y.f1.size ≤ 140737488351232 then some true else none
set_option maxHeartbeats 1600000 in
set_option maxRecDepth 100000 in
theorem catchpitlaw20_ExpectNone.calls (A0 : Option Addr) (c0 : Nat) (l0 : List Fld) (A1 : Option Addr) (c1 : Nat) (l1 : List S41) (r : Bool) (w : World) (hr0 : Kd.C k71 w A0 l0.length l0) (hc0 : l0.length ≤ c0)
    (hr1 : Kd.C k41 w A1 l1.length l1) (_hc1 : l1.length ≤ c1) (hG : TabOk w) (h : catchpitlaw20_ExpectNone.f l0 l1 = some r) :
    Calls Tryd.prog 6 #[.slice A0 l0.length c0, .slice A1 l1.length c1] w fun e w' => e = .returned (.bool r) ∧ Below w.heap.size w w' := by
  unfold catchpitlaw20_ExpectNone.f at h
  split at h
  case isFalse => cases h
  rename_i hf
  obtain ⟨hn, hl1⟩ := hf
  have HSM := Aside0.mk (show Small1 l0 from hl1)
  injection h with h
  subst h
  have HR0 := Aside0.mk hr0
  have HC0 := Aside0.mk hc0
  have HR := Aside0.mk hr1
  have HG := Aside0.mk hG
  have hmax : l1.length ≤ 9223372036854775807 := hr1.2.1
  clear hr0 hr1 hG hc0 hl1
  obtain ⟨K1, g1⟩ := ref05_Great l0 HSM.out hn
  have HGR := Aside0.mk (g1 K1 (Nat.le_refl _))
  clear g1
  go_enter Tryd.func6, Tryd.ntmps6
  go_wp2_with fail
  refine (wakes20_calls w HG.out).mono ?_
  rintro e w1 ⟨rfl, b1⟩
  have B1 := Aside0.mk b1
  have HG1 := Aside0.mk (HG.out.below b1)
  have HR01 := Aside0.mk (Kd.C_below HR0.out b1)
  clear b1
  go_wp2_with fail
  refine (catchpitref05_Great.calls K1 A0 c0 l0 _ w1 HR01.out HC0.out HG1.out HGR.out).mono ?_
  rintro e w2 ⟨rfl, b2'⟩
  have b2 := b2'.below
  clear b2'
  have B2 := Aside0.mk (B1.out.trans (b2.mono B1.out.size))
  have HG2 := Aside0.mk (HG1.out.below b2)
  have HR02 := Aside0.mk (Kd.C_below HR01.out b2)
  clear b2
  by_cases hg : 2000 < sumF l0
  · rw [decide_eq_true hg]
    clear hg
    go_wp2
    go_ret
    exact ⟨rfl, B2.out⟩
  · rw [decide_eq_false hg]
    have HSF := Aside0.mk (show sumF l0 ≤ 2000 by omega)
    clear hg
    by_cases h50 : 50 < l1.length
    · have h50' : (50 : Int) < (l1.length : Int) := by omega
      go_wp2
      go_ret
      exact ⟨rfl, B2.out⟩
    · have h50' : decide ((50 : Int) < (l1.length : Int)) = false := by simp; omega
      have HL50 := Aside0.mk (show l1.length ≤ 50 by omega)
      have hlen := sumF_length l0
      have hlen0 : l0.length ≤ 2000 := Nat.le_trans hlen HSF.out
      obtain ⟨K2, g2⟩ := ref05_Get l0 nExpect HSM.out (by decide) (by omega)
      have HGE := Aside0.mk (g2 K2 (Nat.le_refl _))
      have hsum := sumS_getE nExpect l0
      obtain ⟨K3, g3⟩ := ref07_Has wContinue (by decide) (getL l0 nExpect) (by have := HSF.out; omega)
      have HHA := Aside0.mk (g3 K3 (Nat.le_refl _))
      have HEX := Aside0.mk (expects_eq l0 HSM.out (by have := HSF.out; omega))
      clear h50 g2 g3 hlen hsum
      go_wp2_with fail
      refine (catchpitref05_Get.calls K2 A0 c0 l0 nExpect _ w2 HR02.out HC0.out HG2.out HGE.out).mono ?_
      rintro e w3 ⟨v, rfl, hR, b3⟩
      obtain ⟨A3, c3, rfl, hc3, hC3⟩ := Kd.R_reads hR
      have HR3 := Aside0.mk hC3
      have HC3 := Aside0.mk hc3
      have B3 := Aside0.mk (B2.out.trans (b3.mono B2.out.size))
      have HG3 := Aside0.mk (HG2.out.below b3)
      have HR03 := Aside0.mk (Kd.C_below HR02.out b3)
      clear hR hC3 hc3 b3
      go_wp2_with fail
      refine (catchpitref07_Has.calls K3 wContinue A3 c3 (getL l0 nExpect) _ w3 HR3.out HC3.out HG3.out HHA.out).mono ?_
      rintro e w4 ⟨rfl, b4⟩
      have B4 := Aside0.mk (B3.out.trans (b4.mono B3.out.size))
      have HG4 := Aside0.mk (HG3.out.below b4)
      have HR04 := Aside0.mk (Kd.C_below HR03.out b4)
      clear b4 HHA
      cases hh : hasB (itemsL (getL l0 nExpect)) wContinue with
      | true =>
        clear hh
        go_wp2
        go_ret
        exact ⟨rfl, B4.out⟩
      | false =>
        rw [hh] at HEX
        clear hh
        go_wp2_with fail
        refine (new_calls A0 c0 l0 3 false w4 HR04.out HC0.out HG4.out HEX.out (by decide) (by decide)).mono ?_
        rintro e w5 ⟨rfl, h5, b5⟩
        have H5 := Aside0.mk (show IsH w5 w4.heap.size 0 3 ⟨#[]⟩ from h5)
        have B5 := Aside0.mk (B4.out.trans (b5.mono B4.out.size))
        have HS := Aside0.mk B4.out.size
        clear h5 b5
        generalize w4.heap.size = b at *
        go_wp2_with fail
        go_loopw [36] (fun u36 wr => ∃ k : Nat, k ≤ l1.length ∧ u36 = .int .i64 k ∧ Aside0 (IsH wr b 0 3 ⟨#[]⟩) ∧ Aside0 (Below w.heap.size w wr)) (fun u36 _ => l1.length - (intOf u36).toNat)
        case atStart => exact ⟨0, Nat.zero_le _, rfl, H5, B5⟩
        case round =>
          obtain ⟨k, hk, rfl, hh, hb⟩ := hrel
          by_cases hlt : k < l1.length
          · obtain ⟨ad, e, hx0, hx1'⟩ := at_op (Kd.C_below HR.out hb.out) k hlt
            cases e
            generalize l1.getD k z41 = x at *
            have HH1 := Aside0.mk (hh.out.alloc (.cells #[.int .u8 x.f0, .int .i64 x.f1] 41))
            have HB1 := Aside0.mk (hb.out.alloc hb.out.size (.cells #[.int .u8 x.f0, .int .i64 x.f1] 41))
            have HNE := Aside0.mk (Nat.ne_of_gt hh.out.lt)
            go_wp2_with fail
            have y1 : (wr.alloc (.cells #[.int .u8 x.f0, .int .i64 x.f1] 41)).cell? ⟨wr.heap.size, 1, none⟩ = some (.int .i64 x.f1) := by simp
            have ho := origin_any b 0 3 x.f1 ⟨#[]⟩ _ HH1.out
            rw [show originR 0 (⟨#[]⟩ : ByteArray) x.f1 = (0, ⟨#[]⟩) by unfold originR; rw [if_pos (.inr (.inr (by decide)))]] at ho
            refine ho.mono ?_
            clear ho hx0 hx1'
            rintro e w5 ⟨v5, u5, rfl, h5, b5⟩
            have H5 := Aside0.mk (show IsH w5 b 0 3 ⟨#[]⟩ from h5)
            have B5 := Aside0.mk (HB1.out.trans (b5.1.mono HS.out))
            have y5 := keep_cell b5.2 y1 HNE.out
            clear h5 b5 y1
            go_wp2_with fail
            have ho := tick_calls b 0 3 x.f1 ⟨#[]⟩ w5 H5.out ⟨by decide, by decide⟩
            rw [show tickR 0 3 (⟨#[]⟩ : ByteArray) x.f1 = (0, 3, ⟨#[]⟩) from rfl] at ho
            refine ho.mono ?_
            clear ho
            rintro e w6 ⟨rfl, h6, b6⟩
            have H6 := Aside0.mk (show IsH w6 b 0 3 ⟨#[]⟩ from h6)
            have B6 := Aside0.mk (B5.out.trans (b6.1.mono HS.out))
            have y6 := keep_cell b6.2 y5 HNE.out
            clear h6 b6 y5
            go_wp2_with fail
            have ho := out_calls b 0 3 x.f1 ⟨#[]⟩ w6 H6.out (by decide)
            rw [outN_nil, outR_nil] at ho
            refine ho.mono ?_
            clear ho
            rintro e w7 ⟨c7, rfl, _, h7, b7⟩
            have H7 := Aside0.mk (show IsH w7 b 0 3 ⟨#[]⟩ from h7)
            have B7 := Aside0.mk (B6.out.trans (b7.1.mono HS.out))
            clear h7 b7 y6
            go_wp2_with fail
            have ho := reads_calls b 0 3 ⟨#[]⟩ w7 H7.out
            rw [show (decide ((0 : Int) = 0) || decide ((0 : Int) = 2) && decide ((⟨#[]⟩ : ByteArray).size = 0)) = true from rfl] at ho
            refine ho.mono ?_
            clear ho
            rintro e w8 ⟨rfl, rfl⟩
            go_wp2_with fail
            refine (state_calls b 0 3 ⟨#[]⟩ w8 H7.out).mono ?_
            rintro e w9 ⟨rfl, rfl⟩
            go_wp2
            go_roundw
            case rel => exact ⟨k + 1, hlt, by go_num, H7, B7⟩
            case measure => simp [intOf]; omega
          · go_wp2_with fail
            have ho := reads_calls b 0 3 ⟨#[]⟩ wr hh.out
            rw [show (decide ((0 : Int) = 0) || decide ((0 : Int) = 2) && decide ((⟨#[]⟩ : ByteArray).size = 0)) = true from rfl] at ho
            refine ho.mono ?_
            clear ho
            rintro e w8 ⟨rfl, rfl⟩
            go_wp2_with fail
            refine (interims_calls b 0 3 ⟨#[]⟩ w8 hh.out (by decide)).mono ?_
            rintro e w5 ⟨rfl, rfl⟩
            rw [if_neg (by decide)]
            go_wp2
            go_ret
            exact ⟨rfl, hb.out⟩
end Go.Proofs.YtoanmbhenmlboaaDoor.Ph
end
section
namespace Go.Proofs.YtoanmbhenmlboaaDoor.Ph
abbrev S71 := Go.Proofs.YtoanmbhenmlboaaDoor.Pr.S71
abbrev k71 := Go.Proofs.YtoanmbhenmlboaaDoor.Pr.k71
end Go.Proofs.YtoanmbhenmlboaaDoor.Ph
namespace Go.Proofs.YtoanmbhenmlboaaDoor.Pure
open Go.RowKit Go.Proofs.YtoanmbhenmlboaaDoorH Go.Proofs.YtoanmbhenmlboaaDoor.Ph Go.Proofs.YtoanmbhenmlboaaDoorW.PrintWords Go.Proofs.YtoanmbhenmlboaaDoorW.PrintLast
theorem ExpectNone (l : List Fld) (ops : List S41) (hl : l.length * 32 ≤ 140737488351232 ∧ ∀ y ∈ l, (y.f0.size ≤ 140737488351232 ∧ y.f1.size ≤ 140737488351232)) (_ho : ops.length * 16 ≤ 140737488351232 ∧ ∀ y ∈ ops, ((Lit.int .u8 y.f0).wf = true ∧ (Lit.int .i64 y.f1).wf = true)) : catchpitlaw20_ExpectNone.f l ops = some true :=
  if_pos ⟨by omega, hl.2⟩
end Go.Proofs.YtoanmbhenmlboaaDoor.Pure
end
section
namespace Go.Proofs.YtoanmbhenmlboaaDoorH
open Go.RowKit Go.ChangeShapes Go.WideShapes Go.ChangeAt
theorem two_of {α : Type} {l : List α} (h : l.length = 2) : ∃ a b, l = [a, b] := by
  match l, h with
  | [a, b], _ => exact ⟨a, b, rfl⟩
theorem three_of {α : Type} {l : List α} (h : l.length = 3) : ∃ a b c, l = [a, b, c] := by
  match l, h with
  | [a, b, c], _ => exact ⟨a, b, c, rfl⟩
theorem six_of {α : Type} {l : List α} (h : l.length = 6) : ∃ a b c d e f, l = [a, b, c, d, e, f] := by
  match l, h with
  | [a, b, c, d, e, f], _ => exact ⟨a, b, c, d, e, f, rfl⟩
theorem cells_of_one {W : World} {cs : List Value} {y : DataW Unit × List MemPlace} {m : Nat} {x0 : Int}
    (hd : DataW.trod (fun _ => ()) Tryd.prog W 0 (fun _ => true) false m 5 cs = some y) (hy : y.1 = .lit (.int .u8 x0)) : cs = [.int .u8 x0] := by
  obtain ⟨n, e1, e2, _⟩ := DataW.trod_int Tryd.underlying5 hd
  rw [e2] at hy
  simp only [DataW.lit.injEq, Lit.int.injEq, true_and] at hy
  rw [e1, hy]
theorem cells_of_pair {W : World} {cs : List Value} {y : DataW Unit × List MemPlace} {m : Nat} {x0 x1 : Int}
    (hd : DataW.trod (fun _ => ()) Tryd.prog W 0 (fun _ => true) false m 114 cs = some y) (hy : y.1 = .agg [.lit (.int .u8 x0), .lit (.int .u8 x1)]) :
    cs = [.int .u8 x0, .int .u8 x1] := by
  have c5 : Tryd.prog.cellsOf 5 = 1 := by kernel_rfl
  have c2 : Tryd.prog.cellsOf 114 = 2 := by kernel_rfl
  obtain ⟨xs, m, _, ex, hn, hl, hel⟩ := DataW.trod_array Tryd.underlying114 hd
  rw [c2] at hn
  obtain ⟨a, b, rfl⟩ := two_of hn
  obtain ⟨u, v, rfl⟩ := two_of hl
  · rw [ex] at hy
    simp only [List.map_cons, List.map_nil, DataW.agg.injEq, List.cons.injEq, and_true] at hy
    have h0 := hel 0 (by omega)
    have h1 := hel 1 (by omega)
    simp only [c5] at h0 h1
    have e0 := cells_of_one (y := u) (by simpa using h0) hy.1
    have e1 := cells_of_one (y := v) (by simpa using h1) hy.2
    simp at e0 e1
    rw [e0, e1]
theorem cells_of_pairs {W : World} {cs : List Value} {y : DataW Unit × List MemPlace} {m : Nat} {x0 x1 x2 x3 x4 x5 : Int}
    (hd : DataW.trod (fun _ => ()) Tryd.prog W 0 (fun _ => true) false m 115 cs = some y)
    (hy : y.1 = .agg [.agg [.lit (.int .u8 x0), .lit (.int .u8 x1)], .agg [.lit (.int .u8 x2), .lit (.int .u8 x3)], .agg [.lit (.int .u8 x4), .lit (.int .u8 x5)]]) :
    cs = [.int .u8 x0, .int .u8 x1, .int .u8 x2, .int .u8 x3, .int .u8 x4, .int .u8 x5] := by
  have c2 : Tryd.prog.cellsOf 114 = 2 := by kernel_rfl
  have c6 : Tryd.prog.cellsOf 115 = 6 := by kernel_rfl
  obtain ⟨xs, m, _, ex, hn, hl, hel⟩ := DataW.trod_array Tryd.underlying115 hd
  rw [c6] at hn
  obtain ⟨a, b, c, d, e, f, rfl⟩ := six_of hn
  obtain ⟨u, v, z, rfl⟩ := three_of hl
  · rw [ex] at hy
    simp only [List.map_cons, List.map_nil, DataW.agg.injEq, List.cons.injEq, and_true] at hy
    have h0 := hel 0 (by omega)
    have h1 := hel 1 (by omega)
    have h2 := hel 2 (by omega)
    simp only [c2] at h0 h1 h2
    have e0 := cells_of_pair (y := u) (by simpa using h0) hy.1
    have e1 := cells_of_pair (y := v) (by simpa using h1) hy.2.1
    have e2 := cells_of_pair (y := z) (by simpa using h2) hy.2.2
    simp at e0 e1 e2
    rw [e0.1, e0.2, e1.1, e1.2, e2.1, e2.2]
theorem tabOk_of_laid {W : World} {L : List (String × DataW Unit)} (h : laidMetH Tryd.prog L W) (hp : (L.all fun x => x.2.handleName?.isNone) = true)
    (hf : L.filter (fun x => x.1 == "catchpit/octet.ends") = [("catchpit/octet.ends", Go.Proofs.YtoanmbhenmlboaaDoor.Rows.laid_catchpit_octet_ends)]) (hs : W.ShapedOpen Tryd.prog) : TabOk W := by
  rw [MakeChecks.laidMetH_plain _ _ _ hp] at h
  have h2 := laidMet.filter (fun x => x.1 == "catchpit/octet.ends") h
  rw [hf] at h2
  obtain ⟨ps, ⟨g, t, cs, fuel, p, q, hg, ht, hv, hd, _, _⟩, _, _⟩ := h2
  obtain rfl := Option.some.inj ((show Tryd.prog.globalNamed "catchpit/octet.ends" = some 0 by kernel_rfl).symm.trans hg)
  obtain rfl := Option.some.inj ((show (Tryd.prog.globals[0]?).map (·.type) = some 115 by kernel_rfl).symm.trans ht)
  have e := cells_of_pairs hd rfl
  have hc := World.var?_cell hg hv
  have at_ : ∀ j, cs[j]? = cs.toList[j]? := fun j => (Array.getElem?_toList ..).symm
  rw [e] at at_
  exact ⟨(hc 0).trans (at_ 0), (hc 1).trans (at_ 1), (hc 2).trans (at_ 2), (hc 3).trans (at_ 3), (hc 4).trans (at_ 4), (hc 5).trans (at_ 5), MxOk.of_shaped hs⟩
end Go.Proofs.YtoanmbhenmlboaaDoorH
end
section
namespace Go.Proofs.YtoanmbhenmlboaaDoorH
open Go.RowKit Go.ChangeShapes Go.WideShapes Go.ChangeAt Go.Proofs.YtoanmbhenmlboaaDoorW.PrintWords
def Light {H : Type} (P : Program) (t : TypeId) (d : DataW H) : Prop := ∀ x ∈ DataW.weights P t d, x ≤ reachBytes
structure Opens (P : Program) {α : Type} (d : Kd α) (t : TypeId) (G : α → Prop) : Prop where
  cells : P.cellsOf t = d.sz
  open_ : ∀ {H : Type} {enc : TypeId × Value → H} {W : World} {fuel : Nat} {cs : List Value} {x : DataW H × List MemPlace},
    DataW.trod enc P W 0 (fun _ => true) true fuel t cs = some x → Light P t x.1 → ∃ y, d.K W y cs ∧ G y
theorem Opens.int {P : Program} {t : TypeId} {k : IntKind} (hu : P.underlying t = some (.int k)) (hc : P.cellsOf t = 1) : Opens P (Kd.int k) t (fun n => (Lit.int k n).wf = true) := by
  refine ⟨hc, fun h _ => ?_⟩
  obtain ⟨n, e1, e2, wf⟩ := DataW.trod_int hu h
  exact ⟨n, e1, wf⟩
theorem Opens.bool {P : Program} {t : TypeId} (hu : P.underlying t = some .bool) (hc : P.cellsOf t = 1) : Opens P Kd.bool t (fun _ => True) := by
  refine ⟨hc, fun {_ _ _ fuel cs _} h _ => ?_⟩
  cases fuel with
  | zero => simp [DataW.trod] at h
  | succ m =>
    unfold DataW.trod at h
    rw [hu] at h
    match cs, h with
    | [.bool b], _ => exact ⟨b, rfl, trivial⟩
theorem Opens.string {P : Program} {t : TypeId} (hu : P.underlying t = some .string) (hc : P.cellsOf t = 1) : Opens P Kd.string t (fun s => s.size ≤ 140737488351232) := by
  refine ⟨hc, fun h hl => ?_⟩
  obtain ⟨s, e1, e2, _⟩ := DataW.trod_string hu h
  refine ⟨s, e1, ?_⟩
  subst e2
  have := hl s.data.toList.length (by simp [DataW.weights])
  rw [data_length] at this
  exact this
theorem weightsAll_mem {H : Type} (P : Program) (e : TypeId) : ∀ (l : List (DataW H)) (d : DataW H), d ∈ l → ∀ x ∈ DataW.weights P e d, x ∈ DataW.weightsAll P e l
  | [], d, h, _, _ => by cases h
  | a :: l, d, h, x, hx => by
    rw [DataW.weightsAll]
    rcases List.mem_cons.1 h with rfl | h
    · exact List.mem_append_left _ hx
    · exact List.mem_append_right _ (weightsAll_mem P e l d h x hx)
theorem list_of {α : Type} {p : Nat → α → Prop} : ∀ n : Nat, (∀ i, i < n → ∃ y, p i y) → ∃ l : List α, l.length = n ∧ ∀ i y, l[i]? = some y → p i y
  | 0, _ => ⟨[], rfl, fun i y h => by simp at h⟩
  | n + 1, h => by
    obtain ⟨l, hl, hp⟩ := list_of n (fun i hi => h i (by omega))
    obtain ⟨y, hy⟩ := h n (by omega)
    refine ⟨l ++ [y], by simp [hl], fun i z hz => ?_⟩
    rcases Nat.lt_or_ge i n with hi | hi
    · rw [List.getElem?_append_left (by omega)] at hz
      exact hp i z hz
    · rw [List.getElem?_append_right (by omega), hl] at hz
      rcases Nat.eq_zero_or_pos (i - n) with h0 | h0
      · rw [h0] at hz
        obtain rfl : i = n := by omega
        obtain rfl : y = z := by simpa using hz
        exact hy
      · rw [List.getElem?_eq_none (by simp; omega)] at hz
        cases hz
theorem add_add (a : Addr) (i j : Nat) : (a.add i).add j = a.add (i + j) := by
  unfold Addr.add
  by_cases h1 : i = 0
  · subst h1; simp
  · by_cases h2 : j = 0
    · subst h2; simp [h1]
    · simp [h1, h2, Nat.add_assoc]
theorem cells_at {W : World} {base : Nat} {a : Addr} {n : Nat} {cs : List Value} (h : W.cells? base a n = some cs) : cs.length = n ∧ ∀ (i : Nat) u, cs[i]? = some u → W.cell? (a.add i) = some u := by
  obtain ⟨_, hn, hc⟩ := World.cells?_some h
  refine ⟨hn, fun i u hu => ?_⟩
  have hi : i < n := by
    rcases Nat.lt_or_ge i n with hi | hi
    · exact hi
    · rw [List.getElem?_eq_none (by omega)] at hu; cases hu
  rw [hc i hi, hu]
theorem Opens.slice {P : Program} {α : Type} {d : Kd α} {t e : TypeId} {G : α → Prop} (h : Opens P d e G) (hu : P.underlying t = some (.slice e)) (hc : P.cellsOf t = 1) {B : Nat} (hB : P.bytesOf e = B) :
    Opens P (Kd.slice e d) t (fun l => l.length * B ≤ 140737488351232 ∧ ∀ y ∈ l, G y) := by
  refine ⟨hc, fun {H enc W fuel cs x} hx hl => ?_⟩
  rcases Deep.open_slice hu hx with ⟨rfl, rfl⟩ | ⟨a, len, cap, m, n, D, Pl, rfl, _, hle, hm, hmm, rfl, hel⟩
  · exact ⟨[], ⟨none, 0, rfl, Nat.le_refl _, rfl, by simp, fun h => by simp at h⟩, by simp, fun y hy => by cases hy⟩
  · simp only [if_true] at hmm
    subst hmm
    have hw : (len + (m - len)) * B ≤ 140737488351232 := by
      have := hl ((len + (m - len)) * B) (by
        unfold DataW.weights
        simp only [hu, hB]
        simp)
      exact this
    have hget : ∀ i, i < len → ∃ y, (∃ c, c.length = d.sz ∧ d.K W y c ∧ ∀ j u, c[j]? = some u → W.cell? (a.add (i * d.sz + j)) = some u) ∧ G y := by
      intro i hi
      obtain ⟨cs', h1, h2⟩ := hel i (by omega)
      obtain ⟨y, hy, hg⟩ := h.open_ h2 (fun x hx => hl x (by
        unfold DataW.weights
        simp only [hu]
        refine List.mem_cons_of_mem _ (List.mem_append_left _ (weightsAll_mem P e _ (D i) ?_ x hx))
        exact List.mem_map.2 ⟨i, List.mem_range.2 hi, rfl⟩))
      obtain ⟨hn, hcell⟩ := cells_at h1
      refine ⟨y, ⟨cs', by rw [hn, h.cells], hy, fun j u hj => ?_⟩, hg⟩
      have := hcell j u hj
      rw [add_add, h.cells] at this
      exact this
    obtain ⟨l, hll, hat⟩ := list_of len hget
    refine ⟨l, ⟨some a, m, by rw [hll], by omega, rfl, by rw [hll]; unfold maxLen at hm; omega, fun _ => ⟨a, rfl, fun j p hj => (hat j p hj).1⟩⟩, ?_, fun y hy => ?_⟩
    · rw [hll]
      exact Nat.le_trans (Nat.mul_le_mul_right _ (by omega)) hw
    · obtain ⟨i, hi, rfl⟩ := List.mem_iff_getElem.1 hy
      exact (hat i _ (List.getElem?_eq_getElem hi)).2
theorem weights_agg {H : Type} {P : Program} {t : TypeId} {fs : Array Field} (hu : P.underlying t = some (.struct fs)) (xs : List (DataW H)) : DataW.weights P t (.agg xs) = DataW.weightsEach P (fs.toList.map (·.type)) xs := by
  simp [DataW.weights, hu]
theorem light_of {H : Type} {P : Program} {ts : List TypeId} {ds : List (DataW H)} (h : (DataW.weightsEach P ts ds).all (· ≤ reachBytes) = true) {j : Nat} {t : TypeId} {d : DataW H} (ht : ts[j]? = some t) (hd : ds[j]? = some d) : Light P t d := fun x hx => by
  have := List.all_eq_true.1 h x (DataW.weights_mem_each ht hd x hx)
  simpa using this
theorem Opens.struct2 {P : Program} {α β : Type} {d0 : Kd α} {d1 : Kd β} {t : TypeId} {f0 f1 : Field} {G0 : α → Prop} {G1 : β → Prop} (h0 : Opens P d0 f0.type G0) (h1 : Opens P d1 f1.type G1) (hu : P.underlying t = some (.struct #[f0, f1]))
    (o0 : f0.offset = 0) (o1 : f1.offset = d0.sz) (hc : P.cellsOf t = d0.sz + d1.sz) : Opens P (Kd.pair d0 d1) t (fun x => G0 x.1 ∧ G1 x.2) := by
  refine ⟨hc, fun {H enc W fuel cs x} hx hl => ?_⟩
  obtain ⟨y0, y1, n, rfl, hn, e0, e1⟩ := trod_struct2 hu hx
  have hw : ∀ x, x ∈ DataW.weights P t (.agg [y0.1, y1.1]) → x ≤ reachBytes := hl
  rw [weights_agg hu] at hw
  obtain ⟨x0, k0, g0⟩ := h0.open_ e0 (fun x hx => hw x (DataW.weights_mem_each (j := 0) rfl rfl x hx))
  obtain ⟨x1, k1, g1⟩ := h1.open_ e1 (fun x hx => hw x (DataW.weights_mem_each (j := 1) rfl rfl x hx))
  refine ⟨(x0, x1), ⟨_, _, ?_, k0, k1⟩, g0, g1⟩
  rw [o0, o1, h0.cells, h1.cells, List.drop_zero]
  rw [hc] at hn
  have : (cs.drop d0.sz).take d1.sz = cs.drop d0.sz := List.take_of_length_le (by rw [List.length_drop]; omega)
  rw [this, List.take_append_drop]
theorem Opens.iso {P : Program} {α β : Type} {d : Kd α} {t : TypeId} {G : α → Prop} (h : Opens P d t G) (f : β → α) (g : α → β) (hfg : ∀ y, f (g y) = y) : Opens P (Kd.iso d f) t (fun x => G (f x)) := by
  refine ⟨h.cells, fun {H enc W fuel cs x} hx hl => ?_⟩
  obtain ⟨y, hk, hg⟩ := h.open_ hx hl
  exact ⟨g y, show d.K W (f (g y)) cs by rw [hfg]; exact hk, by rw [hfg]; exact hg⟩
end Go.Proofs.YtoanmbhenmlboaaDoorH
end
section
namespace Go.Proofs.YtoanmbhenmlboaaDoorH
open Go
variable {H : Type} {enc : TypeId × Value → H}
theorem returns_and_shaped {a : Assume} {C : Checked} {os : Os} {f : FuncId} {fn : Func} {s : ChangeSpec} {conds : List PathCond} {apart fresh handsOn again : Bool} {X : World → Array Value → Prop}
    (hX : ∀ (w w' : World) (args : Array Value), w.heap = w'.heap → X w args → X w' args)
    (own : ownKnob C.prog.godebug = none) (started : os.Started) (noInit : C.prog.inits.idxOf? f = none) (hfn : C.prog.funcs[f]? = some fn)
    (witness : ∃ (w : World) (tape : Tape) (i : Input), w.os = os ∧ (w.forCall tape i).Shaped C.prog ∧ i.vars = [] ∧ Input.okWide C.prog (w.forCall tape i) .any w.heap.size f i ∧
      ((s.pre enc C.prog fn conds apart (w.forCall tape i).memory i.args ∧ X (w.forCall tape i).memory i.args) ∧ sizedMet enc C.prog fn (OpenSpec.ofChange s) apart (w.forCall tape i).memory i.args) ∧ a.holds C.prog (lone (Frame.enter C.prog f i.args .normal) [] (w.forCall tape i)))
    (contract : ∀ (W : World) (base : Nat) (args : Array Value) (ds gs : List (DataW H)) (before : List MemPlace),
      (∀ (j : Nat) t v, fn.params[j]? = some t → args[j]? = some v → Value.okWide C.prog W .any base t v) →
      DataW.Whole enc C.prog fn.params.toList s.vars apart W args.toList ds gs before →
      conds.all (PathCond.test C.prog ⟨fn.params.toList, ds, s.plain.varTypes C.prog, gs⟩) = true →
      (DataW.weightsEach C.prog (fn.params.toList ++ s.plain.varTypes C.prog) (ds ++ gs)).all (· ≤ reachBytes) = true → X W args →
      W.ShapedOpen C.prog →
      a.holds C.prog (lone (Frame.enter C.prog f args .normal) [] W) →
      Calls C.prog f args W fun e W' => ∃ v, e = .returned v ∧ s.post enc C.prog fn apart fresh handsOn again W args v W') :
    ReturnsInHanded a C os f .any (fun w args => (s.pre enc C.prog fn conds apart w args ∧ X w args) ∧ sizedMet enc C.prog fn (OpenSpec.ofChange s) apart w args) (s.post enc C.prog fn apart fresh handsOn again) := by
  refine returnsInHanded_of_calls own started noInit witness ?_
  intro w tape i _ hsh _ hok hpre hholds
  obtain ⟨_, _, _, fn', hfn', _, _, _, _, hval⟩ := hok
  have e : fn' = fn := Option.some.inj (hfn'.symm.trans hfn)
  subst e
  obtain ⟨⟨⟨ds, gs, before, hw, hc⟩, hx⟩, hz⟩ := hpre
  have hw' := DataW.Whole.of_heap (w' := w.forCall tape i) (by rfl) hw
  refine (contract (w.forCall tape i) w.heap.size i.args ds gs before hval hw' hc (hz.weights hw) (hX _ _ _ (by rfl) hx) hsh hholds).mono fun e W' ⟨v, he, hp⟩ => ?_
  subst he
  exact ChangeSpec.post_blind hp
end Go.Proofs.YtoanmbhenmlboaaDoorH
end
