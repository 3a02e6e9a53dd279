import Derived.Test.YtmmbpbgcobmifaaDoorZBodyChunkingsP7
import Derived.Test.YtmmbpbgcobmifaaDoorZBodyChunkingsP6
import Derived.Test.YtmmbpbgcobmifaaDoorZBodyChunkingsP1
import Derived.Test.YtmmbpbgcobmifaaDoorRows
import Derived.LaidSub
import Derived.MakeChecks
import Derived.ProofKit
import Derived.OpenShut
import Derived.LaidMore
import Derived.HandedShaped
import Derived.Handed
import Derived.SizedLaws
namespace Go.Proofs.YtmmbpbgcobmifaaDoorH
end Go.Proofs.YtmmbpbgcobmifaaDoorH
namespace Go.Proofs.YtmmbpbgcobmifaaDoor.Pr
end Go.Proofs.YtmmbpbgcobmifaaDoor.Pr
namespace Go.Proofs.YtmmbpbgcobmifaaDoor.Py
end Go.Proofs.YtmmbpbgcobmifaaDoor.Py
namespace Go.Proofs.YtmmbpbgcobmifaaDoorW.PrintWords
end Go.Proofs.YtmmbpbgcobmifaaDoorW.PrintWords
namespace Go.Proofs.YtmmbpbgcobmifaaDoorW.PrintLast
end Go.Proofs.YtmmbpbgcobmifaaDoorW.PrintLast
namespace Go.Proofs.YtmmbpbgcobmifaaDoorW.PrintMore
end Go.Proofs.YtmmbpbgcobmifaaDoorW.PrintMore
namespace Go.Proofs.YtmmbpbgcobmifaaDoorM
end Go.Proofs.YtmmbpbgcobmifaaDoorM
namespace Go.Proofs.YtmmbpbgcobmifaaDoor.Pn
end Go.Proofs.YtmmbpbgcobmifaaDoor.Pn
section
namespace Go.Proofs.YtmmbpbgcobmifaaDoor.Pr
end Go.Proofs.YtmmbpbgcobmifaaDoor.Pr
namespace Go.Proofs.YtmmbpbgcobmifaaDoor.Py
end Go.Proofs.YtmmbpbgcobmifaaDoor.Py
namespace Go.Proofs.YtmmbpbgcobmifaaDoor.Pn
set_option linter.unusedVariables false
set_option linter.unusedSimpArgs false
open Go Go.RowKit Go.Proofs.YtmmbpbgcobmifaaDoorH Go.Proofs.YtmmbpbgcobmifaaDoor.Pr Go.Proofs.YtmmbpbgcobmifaaDoor.Py Go.Proofs.YtmmbpbgcobmifaaDoorW.PrintWords Go.Proofs.YtmmbpbgcobmifaaDoorW.PrintLast Go.Proofs.YtmmbpbgcobmifaaDoorW.PrintMore Go.Proofs.YtmmbpbgcobmifaaDoorM
def Hd (w : World) (h : Value) (c : List Int) : Prop := ∃ A k, h = .slice A c.length k ∧ c.length ≤ k ∧ Kd.C (Kd.int .u8) w A c.length c
def Heads (w : World) : List Value → List (List Int) → Prop
  | [], [] => True
  | h :: hs, c :: cs => Hd w h c ∧ Heads w hs cs
  | _, _ => False
theorem Heads.snoc {w : World} {h : Value} {c : List Int} (hc : Hd w h c) : ∀ {hs : List Value} {cs : List (List Int)}, Heads w hs cs → Heads w (hs ++ [h]) (cs ++ [c])
  | [], [], _ => ⟨hc, trivial⟩
  | [], _ :: _, q => q.elim
  | _ :: _, [], q => q.elim
  | _ :: hs, _ :: cs, q => ⟨q.1, Heads.snoc hc (hs := hs) (cs := cs) q.2⟩
theorem Heads.len {w : World} : ∀ {hs : List Value} {cs : List (List Int)}, Heads w hs cs → hs.length = cs.length
  | [], [], _ => rfl
  | [], _ :: _, q => q.elim
  | _ :: _, [], q => q.elim
  | _ :: hs, _ :: cs, q => by rw [List.length_cons, List.length_cons, Heads.len (hs := hs) (cs := cs) q.2]
theorem Heads.get {w : World} : ∀ {hs : List Value} {cs : List (List Int)}, Heads w hs cs → ∀ (j : Nat) (c : List Int), cs[j]? = some c → ∃ h, hs[j]? = some h ∧ Hd w h c
  | [], [], _, j, c, hj => by simp at hj
  | [], _ :: _, q, _, _, _ => q.elim
  | _ :: _, [], q, _, _, _ => q.elim
  | h :: hs, d :: cs, q, 0, c, hj => ⟨h, rfl, by have e : d = c := (by simpa using hj); subst e; exact q.1⟩
  | h :: hs, d :: cs, q, j + 1, c, hj => Heads.get (hs := hs) (cs := cs) q.2 j c (by simpa using hj)
theorem heads_reads {w W : World} {base : Nat} {v : Value} {hs : List Value} {cs : List (List Int)} {n : Nat} (ho : W.ownsRow base 24 1 v n hs) (hn : hs.length = n) (hh : Heads w hs cs) (hb : Below w.heap.size w W) (hm : cs.length ≤ 1000000) : ∃ A c, v = .slice A cs.length c ∧ cs.length ≤ c ∧ Kd.C KB8 W A cs.length cs := by
  subst hn
  have hl := hh.len
  rcases ho.2 with ⟨rfl, h0⟩ | ⟨g, cap, cur, rfl, _, hg, hnc, _, hcs, htk⟩
  · have h1 : cs = [] := List.length_eq_zero_iff.1 (by omega)
    subst h1
    exact ⟨none, 0, rfl, Nat.le_refl _, rfl, Nat.zero_le _, fun h => absurd h (Nat.lt_irrefl _)⟩
  · refine ⟨some ⟨g, 0, none⟩, cap, by rw [hl], by omega, rfl, by omega, fun _ => ⟨_, rfl, fun j c hj => ?_⟩⟩
    obtain ⟨h, hj2, A, k, rfl, hle, hC⟩ := hh.get j c hj
    refine ⟨[.slice A c.length k], rfl, ⟨A, k, rfl, hle, Kd.C_below hC hb⟩, fun i u hu => ?_⟩
    have hi : i = 0 := by
      have := (List.getElem?_eq_some_iff.1 hu).1
      simp at this
      exact this
    subst hi
    have hu : .slice A c.length k = u := by simpa using hu
    subst hu
    have hjl : j < hs.length := (List.getElem?_eq_some_iff.1 hj2).1
    have hcur : cur.toList[j]? = some (.slice A c.length k) := by
      rw [← hj2, ← htk, List.getElem?_take, if_pos (by omega)]
    have := World.news_of_block hg j _ hcur
    rwa [show j * KB8.sz + 0 = j by show j * 1 + 0 = j; omega]
attribute [local go_sem] min2_int min_two in
set_option maxHeartbeats 4000000 in
set_option maxRecDepth 100000 in
theorem chunkings_go (A0 : Option Addr) (c0 : Nat) (data : List Int) (A1 : Option Addr) (c1 : Nat) (cuts : List Int) (w : World) (hr0 : Kd.C (Kd.int .u8) w A0 data.length data) (hc0 : data.length ≤ c0) (hr1 : Kd.C (Kd.int .u8) w A1 cuts.length cuts) (hG : TabOk w) (hb : ByteL data) (hb1 : ByteL cuts) (h300 : data.length ≤ 300) (h20 : cuts.length ≤ 20) :
    Calls Tryd.prog 10 #[.slice A0 data.length c0, .slice A1 cuts.length c1] w fun e w' => e = .returned (.bool true) ∧ Below w.heap.size w w' := by
  have HW := Aside0.mk (fun W hg => catchpitlaw08_wakes.calls true W hg rfl)
  have HK := Aside0.mk (fun (W : World) (h : Below w.heap.size w W) => (⟨Kd.C_below hr1 h, hG.below h⟩ : Kd.C (Kd.int .u8) W A1 cuts.length cuts ∧ TabOk W))
  have HR0 := Aside0.mk hr0
  have HBD := Aside0.mk hb
  have HBC := Aside0.mk hb1
  have d3 : decide ((300 : Int) < (data.length : Int)) = false := decide_eq_false (by omega)
  have d3' : ¬ (300 : Int) < (data.length : Int) := by omega
  have d2 : decide ((20 : Int) < (cuts.length : Int)) = false := decide_eq_false (by omega)
  have d2' : ¬ (20 : Int) < (cuts.length : Int) := by omega
  have HB := Aside0.mk (Below.refl w.heap.size w)
  obtain ⟨i0, hi0, _, hsz0, _⟩ := info_parts info5
  have hinf : (Tryd.prog.info? 24).map (fun i => (i.zero, i.size, i.bytes)) = some (some (.slice none 0 0), 1, 24) := by kernel_rfl
  clear hr0 hr1 hG hb hb1
  go_enter Tryd.func10, Tryd.ntmps10
  go_wp2_with fail
  refine (HW.out w (HK.out _ HB.out).2).mono ?_
  rintro e w1 ⟨rfl, hb1⟩
  have B1 := Aside0.mk hb1
  clear hb1 HW HB
  go_wp2_with fail
  go_loopw [5, 6, 26] (fun u5 u6 u26 wr => ∃ (k : Nat) (hs : List Value) (cs : List (List Int)) (rest : List Int) (Ar : Option Addr) (cr : Nat), u26 = .int .i64 (k : Int) ∧ u6 = .slice Ar rest.length cr ∧ k ≤ cuts.length ∧ Aside0 (wr.ownsRow w.heap.size 24 1 u5 k hs) ∧ Aside0 (Heads w hs cs) ∧ Aside0 (hs.length = k) ∧ Aside0 (cs.flatten ++ rest = data) ∧ rest.length ≤ cr ∧ Aside0 (Kd.C (Kd.int .u8) w Ar rest.length rest) ∧ Aside0 (Below w.heap.size w wr)) (fun _ _ u26 _ => cuts.length - (intOf u26).toNat)
  case atStart => exact ⟨0, [], [], data, A0, c0, rfl, rfl, Nat.zero_le _, ⟨⟨rfl, .inl ⟨rfl, rfl⟩⟩⟩, ⟨trivial⟩, ⟨rfl⟩, ⟨rfl⟩, hc0, HR0, B1⟩
  case round =>
    obtain ⟨k, hs, cs, rest, Ar, cr, rfl, rfl, hk, HO, HH, HL, HF, hrc, HCR, HB⟩ := hrel
    have HRL := Aside0.mk (show rest.length ≤ 300 by have := congrArg List.length HF.out; rw [List.length_append] at this; omega)
    by_cases hlt : k < cuts.length
    · have hlt' : (k : Int) < (cuts.length : Int) := by omega
      have hge' : (0 : Int) ≤ (k : Int) := by omega
      obtain ⟨ad, eA, _, hcell⟩ := C_u8 (HK.out _ HB.out).1 (by omega)
      have hck := hcell k (cuts.getD k 0) (by rw [List.getD_eq_getElem?_getD, List.getElem?_eq_getElem hlt]; rfl)
      obtain ⟨n0, n1⟩ := HBC.out (cuts.getD k 0) (by rw [List.getD_eq_getElem?_getD, List.getElem?_eq_getElem hlt]; exact List.getElem_mem hlt)
      obtain ⟨n, hn⟩ := Int.eq_ofNat_of_zero_le n0
      rw [hn] at hck n1
      clear hcell n0 hn
      subst eA
      have hw2 : IntKind.i64.wrap ((k : Int) + 1) = (k : Int) + 1 := by
        unfold IntKind.wrap
        simp [IntKind.bits, IntKind.signed]
        omega
      have hwn : IntKind.i64.wrap (n : Int) = (n : Int) := by
        unfold IntKind.wrap
        simp [IntKind.bits, IntKind.signed]
        omega
      obtain ⟨kk, hkk⟩ : ∃ kk, min n rest.length = kk := ⟨_, rfl⟩
      have hmn : (if (rest.length : Int) < (n : Int) then (rest.length : Int) else (n : Int)) = (kk : Int) := by split <;> omega
      have hkr : kk ≤ rest.length := by omega
      have hcut1 := cut_to (P := Tryd.prog) 24 5 .i64 Tryd.underlying24 hi0 Ar rest.length cr (kk : Int) (by omega) (by omega) hrc
      have hcut2 := cut_from (P := Tryd.prog) 24 5 .i64 Tryd.underlying24 hi0 1 hsz0 Ar rest.length cr (kk : Int) (by omega) (by omega)
      have hdr : (rest.drop kk).length = rest.length - kk := List.length_drop
      have htk : (rest.take kk).length = kk := by rw [List.length_take]; omega
      have HCD := Kd.C_drop HCR.out hkr hrc
      have HCT := Aside0.mk (Kd.C_take HCR.out hkr)
      rw [Int.toNat_natCast] at hcut1 hcut2
      rw [show (Kd.int .u8).sz = 1 from rfl] at HCD
      obtain ⟨A2, hA2⟩ : ∃ A2, (if cr = kk then Ar else Ar.map (·.add (kk * 1))) = A2 := ⟨_, rfl⟩
      rw [hA2] at hcut2 HCD
      have HCD := Aside0.mk HCD
      clear hA2
      have hcr2 : (rest.drop kk).length ≤ cr - kk := by omega
      have HF2 := Aside0.mk (show (cs ++ [rest.take kk]).flatten ++ rest.drop kk = data by rw [List.flatten_append]; simp only [List.flatten_cons, List.flatten_nil, List.append_nil]; rw [List.append_assoc, List.take_append_drop]; exact HF.out)
      have HH2 := Aside0.mk (Heads.snoc (show Hd w (.slice Ar kk cr) (rest.take kk) from ⟨Ar, cr, by rw [htk], by omega, HCT.out⟩) HH.out)
      have HL2 := Aside0.mk (show (hs ++ [Value.slice Ar kk cr]).length = k + 1 by rw [List.length_append, HL.out]; rfl)
      rw [← hdr] at hcut2
      generalize rest.drop kk = rest2 at *
      clear HCT HCR hkr hdr htk hmn
      by_cases hc : rest.length < n
      · have hc' : (rest.length : Int) < (n : Int) := by omega
        have e' : (kk : Int) = (rest.length : Int) := by omega
        rw [e'] at hcut1 hcut2
        clear hkk e' hrc
        go_wp2_with (first | ((with_reducible refine gate_builtin (b := .append) (xs := #[.tmp 35, .tmp 39]) rfl ?_); at_builtin; refine print_append_cells (w0 := w) w.heap.size rfl (.tmp 35) (.tmp 39) 48 24 (.slice none 0 0) 1 24 rfl Tryd.underlying48 hinf rfl (by decide) (by decide) _ k hs [.slice Ar kk cr] rfl rfl rfl (fun u hu => by rw [List.mem_singleton.1 hu]; rfl) HO.out HB.out HB.out.size (by omega) ?_; intro v1 w2 hown hb2 hg2 hat2; have HO2 := Aside0.mk hown; have HB2 := Aside0.mk hb2; clear hown hb2 hg2 hat2 hck))
        go_roundw
        case rel => exact ⟨k + 1, _, _, rest2, A2, cr - kk, by go_num, rfl, by omega, HO2, HH2, HL2, HF2, hcr2, HCD, HB2⟩
        case measure => simp [intOf]; omega
      · have hc' : ¬ (rest.length : Int) < (n : Int) := by omega
        have e' : (kk : Int) = (n : Int) := by omega
        rw [e'] at hcut1 hcut2
        clear hkk e' hrc
        go_wp2_with (first | ((with_reducible refine gate_builtin (b := .append) (xs := #[.tmp 35, .tmp 39]) rfl ?_); at_builtin; refine print_append_cells (w0 := w) w.heap.size rfl (.tmp 35) (.tmp 39) 48 24 (.slice none 0 0) 1 24 rfl Tryd.underlying48 hinf rfl (by decide) (by decide) _ k hs [.slice Ar kk cr] rfl rfl rfl (fun u hu => by rw [List.mem_singleton.1 hu]; rfl) HO.out HB.out HB.out.size (by omega) ?_; intro v1 w2 hown hb2 hg2 hat2; have HO2 := Aside0.mk hown; have HB2 := Aside0.mk hb2; clear hown hb2 hg2 hat2 hck))
        go_roundw
        case rel => exact ⟨k + 1, _, _, rest2, A2, cr - kk, by go_num, rfl, by omega, HO2, HH2, HL2, HF2, hcr2, HCD, HB2⟩
        case measure => simp [intOf]; omega
    · obtain rfl : k = cuts.length := by omega
      have hfl := flatten_length (cs ++ [rest])
      have hF2 : (cs ++ [rest]).flatten = data := by rw [List.flatten_append]; simpa using HF.out
      have HH2 := Aside0.mk (Heads.snoc (show Hd w (.slice Ar rest.length cr) rest from ⟨Ar, cr, rfl, hrc, HCR.out⟩) HH.out)
      have HL2 := Aside0.mk (show (hs ++ [Value.slice Ar rest.length cr]).length = cuts.length + 1 by rw [List.length_append, HL.out]; rfl)
      have hcl : (cs ++ [rest]).length = cuts.length + 1 := by rw [← HH2.out.len, HL2.out]
      rw [hF2] at hfl
      have hB0 : ∀ c ∈ cs ++ [rest], ByteL c := fun c hc x hx => HBD.out x (by rw [← hF2]; exact List.mem_flatten.2 ⟨c, hc, hx⟩)
      clear HF HH HL HRL HCR hrc hk hlt
      generalize cs ++ [rest] = cs2 at *
      have hlc : ∀ c ∈ cs2, c.length ≤ 300 := fun c hc => by have := totL_mem cs2 c hc; omega
      have hlen := putP_len [] cs2 [] (fun c hc => by have := hlc c hc; omega) (fun f hf => absurd hf List.not_mem_nil)
      have hBP := putB_bytes cs2 ⟨#[]⟩ [] hB0
      rw [show bytesOf (⟨#[]⟩ : ByteArray) = [] from rfl] at hBP
      obtain ⟨X, hX, hXd, hXf⟩ := run_putP (e0 := 0) (e1 := 0) (e2 := 0) [] ⟨Nat.le_refl _, .inl rfl⟩ cs2 [] [] (fun c hc => by have := hlc c hc; omega) (fun f hf => absurd hf List.not_mem_nil) (Nat.le_refl _) (by unfold linesP; exact Nat.le_refl _)
      rw [List.append_nil] at hX
      have hPB : ByteL (putP [] cs2 []) := by rw [← hBP]; exact bytesOf_byteM _
      have hlp : (putP [] cs2 []).length ≤ 10000 := by
        simp only [List.length_nil] at hlen
        have : sumF [] = 0 := rfl
        omega
      have hs1 := scanF_eq 0 0 0 (putP [] cs2 []) hPB (by omega) (by omega) (by omega) (by omega)
      rw [hX, toldB_ok rfl] at hs1
      dsimp only at hs1
      rw [hXd, hXf, hF2] at hs1
      have hsame : catchpitref08_Same.f 1000001 data data = some true := by rw [Same8_eq _ _ (by omega) _ (by omega), decide_eq_true rfl]
      have HPU := Aside0.mk (fun A c W (hC : Kd.C KB8 W A cs2.length cs2) (h : Below w.heap.size w W) => refPut8_calls A c cs2 ⟨#[]⟩ none 0 [] W hC ⟨rfl, Nat.zero_le _, fun h => absurd h (Nat.lt_irrefl _)⟩ (HK.out W h).2 (smallPut_of cs2 ⟨#[]⟩ [] (by omega) (by omega) (by decide) (Nat.zero_le _)))
      rw [hBP] at HPU
      have HS1 := Aside0.mk hs1
      have HSA := Aside0.mk hsame
      have hc21 : cs2.length ≤ 21 := by omega
      clear hlen hBP hX hXd hXf hPB hs1 hsame hlc X hF2 hfl hB0 hcl
      generalize putP [] cs2 [] = S at *
      go_wp2_with (first | ((with_reducible refine gate_builtin (b := .append) (xs := #[.tmp 45, .tmp 47]) rfl ?_); at_builtin; refine print_append_cells (w0 := w) w.heap.size rfl (.tmp 45) (.tmp 47) 48 24 (.slice none 0 0) 1 24 rfl Tryd.underlying48 hinf rfl (by decide) (by decide) _ cuts.length hs [.slice Ar rest.length cr] rfl rfl rfl (fun u hu => by rw [List.mem_singleton.1 hu]; rfl) HO.out HB.out HB.out.size (by omega) ?_; intro v1 w2 hown hb2 hg2 hat2; obtain ⟨Ac, cc, rfl, hcc, hCC⟩ := heads_reads hown HL2.out HH2.out hb2 (by omega); have HCC := Aside0.mk hCC; have HB2 := Aside0.mk hb2; clear hown hb2 hg2 hat2 hCC))
      refine (HPU.out _ _ _ HCC.out HB2.out).mono ?_
      rintro e w5 ⟨v5, rfl, ⟨A5, c5, rfl, hc5, hC5⟩, hb5⟩
      have B5 := Aside0.mk (HB2.out.trans (hb5.mono HB2.out.size))
      have HSC := Aside0.mk (body_Scan.calls A5 c5 S 0 0 0 data [] (S.length : Int) (S.length : Int) 0 w5 hC5 hc5 (HK.out _ B5.out).2 HS1.out)
      clear hb5 hC5 HPU HS1 HCC HH2 HL2
      go_wp2_with fail
      refine HSC.out.mono ?_
      rintro e w6 ⟨v8, v9, rfl, hv0, hv1, hb6⟩
      obtain ⟨y0, y1, rfl⟩ := Kd.R_slice hv0
      obtain ⟨z0, z1, rfl⟩ := Kd.R_slice hv1
      have B6 := Aside0.mk (B5.out.trans (hb6.mono B5.out.size))
      obtain ⟨_, _, qe, hy1, hC0⟩ := Kd.R_reads hv0
      cases qe
      have HFR := Aside0.mk (fun (W : World) (h : Below w6.heap.size w6 W) => Kd.C_below hC0 h)
      clear hv0 hv1 hb6 HSC hC0
      have HSS := Aside0.mk (fun (W : World) (h : Below w6.heap.size w6 W) (h2 : Below w.heap.size w W) => catchpitref08_Same.calls 1000001 y0 y1 data A0 c0 data true W (HFR.out W h) hy1 (Kd.C_below HR0.out h2) hc0 (HK.out W h2).2 HSA.out)
      go_wp2_with fail
      refine (HSS.out _ (below_alloc (Below.refl _ _) _) (below_alloc B6.out _)).mono ?_
      rintro e w8 ⟨rfl, hb8⟩
      have hgz : (w6.alloc (.cells #[.slice y0 data.length y1, .slice z0 0 z1, .int .i64 (S.length : Int)] 57)).heap[w6.heap.size]? = some (.cells #[.slice y0 data.length y1, .slice z0 0 z1, .int .i64 (S.length : Int)] 57 (0, 0)) := World.alloc_heap_new w6 _
      have hg8 := (hb8.below.block _ (blk_lt hgz)).trans hgz
      have x0 : w8.cell? ⟨w6.heap.size, 0, none⟩ = some (.slice y0 data.length y1) := (blk_cell hg8 0).trans rfl
      have x1 : w8.cell? ⟨w6.heap.size, 1, none⟩ = some (.slice z0 0 z1) := (blk_cell hg8 1).trans rfl
      have x2 : w8.cell? ⟨w6.heap.size, 2, none⟩ = some (.int .i64 (S.length : Int)) := (blk_cell hg8 2).trans rfl
      have B8 := Aside0.mk ((below_alloc B6.out _).trans (hb8.below.mono (below_alloc B6.out _).size))
      clear hb8 hgz hg8
      go_wp2
      go_ret
      exact ⟨rfl, B8.out⟩
set_option maxHeartbeats 4000000 in
set_option maxRecDepth 100000 in
theorem chunkings_out (A0 : Option Addr) (c0 : Nat) (data : List Int) (A1 : Option Addr) (c1 : Nat) (cuts : List Int) (w : World) (hr0 : Kd.C (Kd.int .u8) w A0 data.length data) (hr1 : Kd.C (Kd.int .u8) w A1 cuts.length cuts) (hG : TabOk w) (ho : 300 < data.length ∨ 20 < cuts.length) :
    Calls Tryd.prog 10 #[.slice A0 data.length c0, .slice A1 cuts.length c1] w fun e w' => e = .returned (.bool true) ∧ Below w.heap.size w w' := by
  have hm0 : data.length ≤ 9223372036854775807 := hr0.2.1
  have hm1 : cuts.length ≤ 9223372036854775807 := hr1.2.1
  have HW := Aside0.mk (fun W hg => catchpitlaw08_wakes.calls true W hg rfl)
  have HG := Aside0.mk (fun (W : World) (h : Below w.heap.size w W) => hG.below h)
  by_cases h3 : 300 < data.length
  · have d3' : (300 : Int) < (data.length : Int) := by omega
    have d3 : decide ((300 : Int) < (data.length : Int)) = true := decide_eq_true d3'
    clear hr0 hr1 hG ho
    go_enter Tryd.func10, Tryd.ntmps10
    go_wp2_with fail
    refine (HW.out w (HG.out _ (Below.refl _ _))).mono ?_
    rintro e w1 ⟨rfl, hb1⟩
    have B1 := Aside0.mk hb1
    clear hb1
    go_wp2
    go_ret
    exact ⟨rfl, B1.out⟩
  · have d3' : ¬ (300 : Int) < (data.length : Int) := by omega
    have d3 : decide ((300 : Int) < (data.length : Int)) = false := decide_eq_false d3'
    have d2' : (20 : Int) < (cuts.length : Int) := by
      rcases ho with h | h
      · exact absurd h h3
      · omega
    have d2 : decide ((20 : Int) < (cuts.length : Int)) = true := decide_eq_true d2'
    clear hr0 hr1 hG ho
    go_enter Tryd.func10, Tryd.ntmps10
    go_wp2_with fail
    refine (HW.out w (HG.out _ (Below.refl _ _))).mono ?_
    rintro e w1 ⟨rfl, hb1⟩
    have B1 := Aside0.mk hb1
    clear hb1
    go_wp2
    go_ret
    exact ⟨rfl, B1.out⟩
def catchpitlaw08_BodyChunkings.f (l : List Int) (m : List Int) : Option Bool := if byteB l = true ∧ byteB m = true then some true else none
theorem catchpitlaw08_BodyChunkings.calls (A0 : Option Addr) (c0 : Nat) (l0 : List Int) (A1 : Option Addr) (c1 : Nat) (l1 : List Int) (r : Bool) (w : World) (hr0 : Kd.C (Kd.int .u8) w A0 l0.length l0) (hc0 : l0.length ≤ c0) (hr1 : Kd.C (Kd.int .u8) w A1 l1.length l1) (hc1 : l1.length ≤ c1) (hG : TabOk w) (h : catchpitlaw08_BodyChunkings.f l0 l1 = some r) :
    Calls Tryd.prog 10 #[.slice A0 l0.length c0, .slice A1 l1.length c1] w fun e w' => e = .returned (.bool r) ∧ Below w.heap.size w w' := by
  unfold catchpitlaw08_BodyChunkings.f at h
  split at h
  · rename_i hh
    cases h
    by_cases ho : 300 < l0.length ∨ 20 < l1.length
    · exact chunkings_out A0 c0 l0 A1 c1 l1 w hr0 hr1 hG ho
    · exact chunkings_go A0 c0 l0 A1 c1 l1 w hr0 hc0 hr1 hG (byteB_iff.1 hh.1) (byteB_iff.1 hh.2) (by omega) (by omega)
  · cases h
end Go.Proofs.YtmmbpbgcobmifaaDoor.Pn
end
section
namespace Go.Proofs.YtmmbpbgcobmifaaDoor.Pr
end Go.Proofs.YtmmbpbgcobmifaaDoor.Pr
namespace Go.Proofs.YtmmbpbgcobmifaaDoor.Py
end Go.Proofs.YtmmbpbgcobmifaaDoor.Py
namespace Go.Proofs.YtmmbpbgcobmifaaDoor.Pn
end Go.Proofs.YtmmbpbgcobmifaaDoor.Pn
namespace Go.Proofs.YtmmbpbgcobmifaaDoor.Pure
open Go.RowKit Go.Proofs.YtmmbpbgcobmifaaDoorH Go.Proofs.YtmmbpbgcobmifaaDoor.Pr Go.Proofs.YtmmbpbgcobmifaaDoor.Py Go.Proofs.YtmmbpbgcobmifaaDoor.Pn Go.Proofs.YtmmbpbgcobmifaaDoorW.PrintWords Go.Proofs.YtmmbpbgcobmifaaDoorW.PrintLast
theorem wf_u8N {x : Int} (h : (Lit.int .u8 x).wf = true) : 0 ≤ x ∧ x ≤ 255 := by
  have m2 : IntKind.u8.max = 255 := rfl
  have m1 : IntKind.u8.min = 0 := rfl
  simp [Lit.wf, m1, m2] at h
  omega
theorem wf_bytesN {l : List Int} (h : ∀ y ∈ l, (Lit.int .u8 y).wf = true) : ByteL l := fun x hx => wf_u8N (h x hx)
theorem BodyChunkings (l m : List Int) (hl : l.length * 1 ≤ 140737488351232 ∧ ∀ y ∈ l, (Lit.int .u8 y).wf = true) (hm : m.length * 1 ≤ 140737488351232 ∧ ∀ y ∈ m, (Lit.int .u8 y).wf = true) :
    catchpitlaw08_BodyChunkings.f l m = some true := if_pos ⟨byteB_iff.2 (wf_bytesN hl.2), byteB_iff.2 (wf_bytesN hm.2)⟩
end Go.Proofs.YtmmbpbgcobmifaaDoor.Pure
end
section
namespace Go.Proofs.YtmmbpbgcobmifaaDoorH
open Go.RowKit Go.ChangeShapes Go.WideShapes Go.ChangeAt
theorem two_of {α : Type} {l : List α} (h : l.length = 2) : ∃ a b, l = [a, b] := by
  match l, h with
  | [a, b], _ => exact ⟨a, b, rfl⟩
theorem three_of {α : Type} {l : List α} (h : l.length = 3) : ∃ a b c, l = [a, b, c] := by
  match l, h with
  | [a, b, c], _ => exact ⟨a, b, c, rfl⟩
theorem six_of {α : Type} {l : List α} (h : l.length = 6) : ∃ a b c d e f, l = [a, b, c, d, e, f] := by
  match l, h with
  | [a, b, c, d, e, f], _ => exact ⟨a, b, c, d, e, f, rfl⟩
theorem cells_of_one {W : World} {cs : List Value} {y : DataW Unit × List MemPlace} {m : Nat} {x0 : Int}
    (hd : DataW.trod (fun _ => ()) Tryd.prog W 0 (fun _ => true) false m 5 cs = some y) (hy : y.1 = .lit (.int .u8 x0)) : cs = [.int .u8 x0] := by
  obtain ⟨n, e1, e2, _⟩ := DataW.trod_int Tryd.underlying5 hd
  rw [e2] at hy
  simp only [DataW.lit.injEq, Lit.int.injEq, true_and] at hy
  rw [e1, hy]
theorem cells_of_pair {W : World} {cs : List Value} {y : DataW Unit × List MemPlace} {m : Nat} {x0 x1 : Int}
    (hd : DataW.trod (fun _ => ()) Tryd.prog W 0 (fun _ => true) false m 109 cs = some y) (hy : y.1 = .agg [.lit (.int .u8 x0), .lit (.int .u8 x1)]) :
    cs = [.int .u8 x0, .int .u8 x1] := by
  have c5 : Tryd.prog.cellsOf 5 = 1 := by kernel_rfl
  have c2 : Tryd.prog.cellsOf 109 = 2 := by kernel_rfl
  obtain ⟨xs, m, _, ex, hn, hl, hel⟩ := DataW.trod_array Tryd.underlying109 hd
  rw [c2] at hn
  obtain ⟨a, b, rfl⟩ := two_of hn
  obtain ⟨u, v, rfl⟩ := two_of hl
  · rw [ex] at hy
    simp only [List.map_cons, List.map_nil, DataW.agg.injEq, List.cons.injEq, and_true] at hy
    have h0 := hel 0 (by omega)
    have h1 := hel 1 (by omega)
    simp only [c5] at h0 h1
    have e0 := cells_of_one (y := u) (by simpa using h0) hy.1
    have e1 := cells_of_one (y := v) (by simpa using h1) hy.2
    simp at e0 e1
    rw [e0, e1]
theorem cells_of_pairs {W : World} {cs : List Value} {y : DataW Unit × List MemPlace} {m : Nat} {x0 x1 x2 x3 x4 x5 : Int}
    (hd : DataW.trod (fun _ => ()) Tryd.prog W 0 (fun _ => true) false m 110 cs = some y)
    (hy : y.1 = .agg [.agg [.lit (.int .u8 x0), .lit (.int .u8 x1)], .agg [.lit (.int .u8 x2), .lit (.int .u8 x3)], .agg [.lit (.int .u8 x4), .lit (.int .u8 x5)]]) :
    cs = [.int .u8 x0, .int .u8 x1, .int .u8 x2, .int .u8 x3, .int .u8 x4, .int .u8 x5] := by
  have c2 : Tryd.prog.cellsOf 109 = 2 := by kernel_rfl
  have c6 : Tryd.prog.cellsOf 110 = 6 := by kernel_rfl
  obtain ⟨xs, m, _, ex, hn, hl, hel⟩ := DataW.trod_array Tryd.underlying110 hd
  rw [c6] at hn
  obtain ⟨a, b, c, d, e, f, rfl⟩ := six_of hn
  obtain ⟨u, v, z, rfl⟩ := three_of hl
  · rw [ex] at hy
    simp only [List.map_cons, List.map_nil, DataW.agg.injEq, List.cons.injEq, and_true] at hy
    have h0 := hel 0 (by omega)
    have h1 := hel 1 (by omega)
    have h2 := hel 2 (by omega)
    simp only [c2] at h0 h1 h2
    have e0 := cells_of_pair (y := u) (by simpa using h0) hy.1
    have e1 := cells_of_pair (y := v) (by simpa using h1) hy.2.1
    have e2 := cells_of_pair (y := z) (by simpa using h2) hy.2.2
    simp at e0 e1 e2
    rw [e0.1, e0.2, e1.1, e1.2, e2.1, e2.2]
theorem tabOk_of_laid {W : World} {L : List (String × DataW Unit)} (h : laidMetH Tryd.prog L W) (hp : (L.all fun x => x.2.handleName?.isNone) = true)
    (hf : L.filter (fun x => x.1 == "catchpit/octet.ends") = [("catchpit/octet.ends", Go.Proofs.YtmmbpbgcobmifaaDoor.Rows.laid_catchpit_octet_ends)]) (hs : W.ShapedOpen Tryd.prog) : TabOk W := by
  rw [MakeChecks.laidMetH_plain _ _ _ hp] at h
  have h2 := laidMet.filter (fun x => x.1 == "catchpit/octet.ends") h
  rw [hf] at h2
  obtain ⟨ps, ⟨g, t, cs, fuel, p, q, hg, ht, hv, hd, _, _⟩, _, _⟩ := h2
  obtain rfl := Option.some.inj ((show Tryd.prog.globalNamed "catchpit/octet.ends" = some 0 by kernel_rfl).symm.trans hg)
  obtain rfl := Option.some.inj ((show (Tryd.prog.globals[0]?).map (·.type) = some 110 by kernel_rfl).symm.trans ht)
  have e := cells_of_pairs hd rfl
  have hc := World.var?_cell hg hv
  have at_ : ∀ j, cs[j]? = cs.toList[j]? := fun j => (Array.getElem?_toList ..).symm
  rw [e] at at_
  exact ⟨(hc 0).trans (at_ 0), (hc 1).trans (at_ 1), (hc 2).trans (at_ 2), (hc 3).trans (at_ 3), (hc 4).trans (at_ 4), (hc 5).trans (at_ 5), MxOk.of_shaped hs⟩
end Go.Proofs.YtmmbpbgcobmifaaDoorH
end
section
namespace Go.Proofs.YtmmbpbgcobmifaaDoorH
open Go
variable {H : Type} {enc : TypeId × Value → H}
theorem returns_and_shaped {a : Assume} {C : Checked} {os : Os} {f : FuncId} {fn : Func} {s : ChangeSpec} {conds : List PathCond} {apart fresh handsOn again : Bool} {X : World → Array Value → Prop}
    (hX : ∀ (w w' : World) (args : Array Value), w.heap = w'.heap → X w args → X w' args)
    (own : ownKnob C.prog.godebug = none) (started : os.Started) (noInit : C.prog.inits.idxOf? f = none) (hfn : C.prog.funcs[f]? = some fn)
    (witness : ∃ (w : World) (tape : Tape) (i : Input), w.os = os ∧ (w.forCall tape i).Shaped C.prog ∧ i.vars = [] ∧ Input.okWide C.prog (w.forCall tape i) .any w.heap.size f i ∧
      ((s.pre enc C.prog fn conds apart (w.forCall tape i).memory i.args ∧ X (w.forCall tape i).memory i.args) ∧ sizedMet enc C.prog fn (OpenSpec.ofChange s) apart (w.forCall tape i).memory i.args) ∧ a.holds C.prog (lone (Frame.enter C.prog f i.args .normal) [] (w.forCall tape i)))
    (contract : ∀ (W : World) (base : Nat) (args : Array Value) (ds gs : List (DataW H)) (before : List MemPlace),
      (∀ (j : Nat) t v, fn.params[j]? = some t → args[j]? = some v → Value.okWide C.prog W .any base t v) →
      DataW.Whole enc C.prog fn.params.toList s.vars apart W args.toList ds gs before →
      conds.all (PathCond.test C.prog ⟨fn.params.toList, ds, s.plain.varTypes C.prog, gs⟩) = true →
      (DataW.weightsEach C.prog (fn.params.toList ++ s.plain.varTypes C.prog) (ds ++ gs)).all (· ≤ reachBytes) = true → X W args →
      W.ShapedOpen C.prog →
      a.holds C.prog (lone (Frame.enter C.prog f args .normal) [] W) →
      Calls C.prog f args W fun e W' => ∃ v, e = .returned v ∧ s.post enc C.prog fn apart fresh handsOn again W args v W') :
    ReturnsInHanded a C os f .any (fun w args => (s.pre enc C.prog fn conds apart w args ∧ X w args) ∧ sizedMet enc C.prog fn (OpenSpec.ofChange s) apart w args) (s.post enc C.prog fn apart fresh handsOn again) := by
  refine returnsInHanded_of_calls own started noInit witness ?_
  intro w tape i _ hsh _ hok hpre hholds
  obtain ⟨_, _, _, fn', hfn', _, _, _, _, hval⟩ := hok
  have e : fn' = fn := Option.some.inj (hfn'.symm.trans hfn)
  subst e
  obtain ⟨⟨⟨ds, gs, before, hw, hc⟩, hx⟩, hz⟩ := hpre
  have hw' := DataW.Whole.of_heap (w' := w.forCall tape i) (by rfl) hw
  refine (contract (w.forCall tape i) w.heap.size i.args ds gs before hval hw' hc (hz.weights hw) (hX _ _ _ (by rfl) hx) hsh hholds).mono fun e W' ⟨v, he, hp⟩ => ?_
  subst he
  exact ChangeSpec.post_blind hp
end Go.Proofs.YtmmbpbgcobmifaaDoorH
end
