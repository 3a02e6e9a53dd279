import Derived.Test.YtmmbpbgcobmifaaDoorZBodyExtensionsP7
import Derived.Test.YtmmbpbgcobmifaaDoorZBodyExtensionsP6
import Derived.Test.YtmmbpbgcobmifaaDoorZBodyExtensionsP5
import Derived.Test.YtmmbpbgcobmifaaDoorZBodyExtensionsP1
import Derived.Test.YtmmbpbgcobmifaaDoorRows
import Derived.LaidSub
import Derived.MakeChecks
import Derived.ProofKit
import Derived.OpenShut
import Derived.LaidMore
import Derived.HandedShaped
import Derived.Handed
import Derived.SizedLaws
namespace Go.Proofs.YtmmbpbgcobmifaaDoorH
end Go.Proofs.YtmmbpbgcobmifaaDoorH
namespace Go.Proofs.YtmmbpbgcobmifaaDoor.Pr
end Go.Proofs.YtmmbpbgcobmifaaDoor.Pr
namespace Go.Proofs.YtmmbpbgcobmifaaDoor.Py
end Go.Proofs.YtmmbpbgcobmifaaDoor.Py
namespace Go.Proofs.YtmmbpbgcobmifaaDoorW.PrintWords
end Go.Proofs.YtmmbpbgcobmifaaDoorW.PrintWords
namespace Go.Proofs.YtmmbpbgcobmifaaDoorW.PrintLast
end Go.Proofs.YtmmbpbgcobmifaaDoorW.PrintLast
namespace Go.Proofs.YtmmbpbgcobmifaaDoorW.PrintMore
end Go.Proofs.YtmmbpbgcobmifaaDoorW.PrintMore
namespace Go.Proofs.YtmmbpbgcobmifaaDoorM
end Go.Proofs.YtmmbpbgcobmifaaDoorM
namespace Go.Proofs.YtmmbpbgcobmifaaDoor.Px
end Go.Proofs.YtmmbpbgcobmifaaDoor.Px
section
namespace Go.Proofs.YtmmbpbgcobmifaaDoor.Pr
end Go.Proofs.YtmmbpbgcobmifaaDoor.Pr
namespace Go.Proofs.YtmmbpbgcobmifaaDoor.Py
end Go.Proofs.YtmmbpbgcobmifaaDoor.Py
namespace Go.Proofs.YtmmbpbgcobmifaaDoor.Px
set_option linter.unusedVariables false
set_option linter.unusedSimpArgs false
open Go Go.RowKit Go.Proofs.YtmmbpbgcobmifaaDoorH Go.Proofs.YtmmbpbgcobmifaaDoor.Pr Go.Proofs.YtmmbpbgcobmifaaDoor.Py Go.Proofs.YtmmbpbgcobmifaaDoorW.PrintWords Go.Proofs.YtmmbpbgcobmifaaDoorW.PrintLast Go.Proofs.YtmmbpbgcobmifaaDoorW.PrintMore Go.Proofs.YtmmbpbgcobmifaaDoorM
theorem putP_head (t : List Int) (fs : List Fld) : ∀ (l : List (List Int)), (∀ c ∈ l, c.length < 1000000) → ∃ m r, putP (59 :: t) l fs = hexL m ++ (59 :: (t ++ r)) ∧ m < 1000000
  | [], _ => ⟨0, 13 :: 10 :: (linesP fs ++ [13, 10]), by unfold putP; rw [hexL_lt (show 0 < 16 by decide)]; rfl, by decide⟩
  | c :: l, h => by
    by_cases hc : c.length = 0
    · obtain ⟨m, r, e, hm⟩ := putP_head t fs l (fun d hd => h d (List.mem_cons_of_mem _ hd))
      refine ⟨m, r, ?_, hm⟩
      rw [← e]
      unfold putP
      rw [List.flatMap_cons, show chunkP (59 :: t) c = [] by unfold chunkP; rw [if_pos hc], List.nil_append]
    · refine ⟨c.length, 13 :: 10 :: (c ++ [13, 10]) ++ (l.flatMap (chunkP (59 :: t)) ++ (48 :: ((59 :: t) ++ (13 :: 10 :: (linesP fs ++ [13, 10]))))), ?_, h c List.mem_cons_self⟩
      unfold putP
      rw [List.flatMap_cons, show chunkP (59 :: t) c = hexL c.length ++ ((59 :: t) ++ (13 :: 10 :: (c ++ [13, 10]))) by unfold chunkP; rw [if_neg hc]]
      simp only [List.append_assoc, List.cons_append]
theorem hexL_no59 (n : Nat) : ∀ x ∈ hexL n, x ≠ 59 := by
  induction n using Nat.strongRecOn with
  | ind n ih =>
    have hd : ∀ d : Nat, d < 16 → hexD d ≠ 59 := fun d h => by
      unfold hexD
      split <;> omega
    by_cases h : n < 16
    · rw [hexL_lt h]
      intro x hx
      rw [List.mem_singleton.1 hx]
      exact hd n h
    · rw [hexL_ge (by omega)]
      intro x hx
      rcases List.mem_append.1 hx with hx | hx
      · exact ih (n / 16) (by omega) x hx
      · rw [List.mem_singleton.1 hx]
        exact hd _ (Nat.mod_lt _ (by decide))
theorem run_extLimit {e1 e2 : Nat} (t r : List Int) (ht : ∀ c ∈ t, textB c = true ∧ c ≠ 13) (m : Nat) (hm : m < 1000000) : ∃ X, mrun (envM t.length e1 e2) minit (hexL m ++ (59 :: (t ++ r))) 0 = (X, (hexL m).length + t.length, 5) := by
  have d59 : ¬ (0 ≤ (envM t.length e1 e2).dg 59) := by have := (goodM t.length e1 e2).d59; show ¬ (0 ≤ digI 59); omega
  have hpos := hexL_pos m
  rw [run_hexP m (by omega) _ 0 minit rfl rfl rfl]
  rcases List.eq_nil_or_concat t with rfl | ⟨t', z, rfl⟩
  · refine ⟨⟨0, m, (hexL m).length, 0, 0, [], [], []⟩, ?_⟩
    rw [List.nil_append, run_err (e := 5) (by
      rw [step0 rfl, if_neg d59, if_neg (fun h => h.elim (fun h => by have h : (hexL m).length = 0 := h; omega) (fun h => h.1 rfl)), if_neg (by decide), if_pos (by show ([] : List Int).length < 1; decide)])]
    show (_, 0 + (hexL m).length, (5 : Int)) = _
    rw [Nat.zero_add]
    rfl
  · rw [List.concat_eq_append] at ht d59 ⊢
    have hl : (t' ++ [z]).length = t'.length + 1 := by simp
    obtain ⟨z1, z2⟩ := ht z (by simp)
    refine ⟨⟨1, m, 1 + t'.length, 0, 0, [], [], []⟩, ?_⟩
    rw [run_on (x := ⟨1, m, 1, 0, 0, [], [], []⟩) (by
      rw [step0 rfl, if_neg d59, if_neg (fun h => h.elim (fun h => by have h : (hexL m).length = 0 := h; omega) (fun h => h.1 rfl)), if_neg (by decide), if_neg (by show ¬ (t' ++ [z]).length < 1; omega)]
      rfl) (by simp), List.append_assoc, run_textP t' _ _ _ rfl (fun c hc => ht c (by simp [hc])) (by show 1 + t'.length ≤ (t' ++ [z]).length; omega), List.singleton_append, run_err (e := 5) (by
      rw [step1 rfl, if_neg z2, if_neg (by rw [show (envM (t' ++ [z]).length e1 e2).tx z = textB z from rfl, z1]; simp), if_pos (by show (t' ++ [z]).length ≤ 1 + t'.length; omega)])]
    rw [hl]
    show (_, 0 + (hexL m).length + 1 + t'.length, (5 : Int)) = _
    rw [show 0 + (hexL m).length + 1 + t'.length = (hexL m).length + (t'.length + 1) by omega]
set_option maxHeartbeats 4000000 in
set_option maxRecDepth 100000 in
theorem ext_go (A0 : Option Addr) (c0 : Nat) (l : List (List Int)) (ext : ByteArray) (x : Nat) (w : World) (hr0 : Kd.C KB8 w A0 l.length l) (hc0 : l.length ≤ c0) (hG : TabOk w) (hb0 : ∀ c ∈ l, ByteL c) (hlc : ∀ c ∈ l, c.length ≤ 140737488351232) (h5 : l.length ≤ 5) (h50 : ext.size ≤ 50) (htx : allB textI ext = true) (hx : x ≤ 255) :
    Calls Tryd.prog 9 #[.slice A0 l.length c0, .string ext, .int .u8 (x : Int)] w fun e w' => e = .returned (.bool true) ∧ Below w.heap.size w w' := by
  obtain ⟨K, hK⟩ := ref02_Text ext (by omega)
  have htt := hK K (Nat.le_refl _)
  rw [htx] at htt
  have HW := Aside0.mk (fun W hg => catchpitlaw08_wakes.calls true W hg rfl)
  have HK := Aside0.mk (fun (W : World) (h : Below w.heap.size w W) => (⟨Kd.C_below hr0 h, hG.below h⟩ : Kd.C KB8 W A0 l.length l ∧ TabOk W))
  have HTX := Aside0.mk (fun (W : World) (h : Below w.heap.size w W) => catchpitref02_Text.calls K ext true W (hG.below h) htt)
  have HB0 := Aside0.mk hb0
  have HLC := Aside0.mk hlc
  have HC0 := Aside0.mk hc0
  have HXT := Aside0.mk htx
  have d5 : decide ((5 : Int) < (l.length : Int)) = false := decide_eq_false (by omega)
  have d5' : ¬ (5 : Int) < (l.length : Int) := by omega
  have d50 : decide ((50 : Int) < (ext.size : Int)) = false := decide_eq_false (by omega)
  have d50' : ¬ (50 : Int) < (ext.size : Int) := by omega
  have HB := Aside0.mk (Below.refl w.heap.size w)
  clear hr0 hG hK hb0 hlc htt htx
  go_enter Tryd.func9, Tryd.ntmps9
  go_wp2_with fail
  refine (HW.out w (HK.out _ HB.out).2).mono ?_
  rintro e w1 ⟨rfl, hb1⟩
  have B1 := Aside0.mk hb1
  clear hb1 HW HB
  go_wp2_with fail
  refine (HTX.out w1 B1.out).mono ?_
  rintro e w2 ⟨rfl, hb2⟩
  have B2 := Aside0.mk (B1.out.trans (hb2.below.mono B1.out.size))
  clear hb2 B1 HTX
  go_wp2_with fail
  go_loopw [7, 35] (fun u7 u35 wr => ∃ k : Nat, u35 = .int .i64 (k : Int) ∧ u7 = .int .i64 ((totL (l.take k) : Nat) : Int) ∧ k ≤ l.length ∧ totL (l.take k) ≤ 300 ∧ Aside0 (Below w.heap.size w wr)) (fun _ u35 _ => l.length - (intOf u35).toNat)
  case atStart => exact ⟨0, rfl, rfl, Nat.zero_le _, Nat.zero_le _, B2⟩
  case round =>
    obtain ⟨k, rfl, rfl, hk, ht, hb⟩ := hrel
    by_cases hlt : k < l.length
    · have hlt' : (k : Int) < (l.length : Int) := by omega
      have hge' : (0 : Int) ≤ (k : Int) := by omega
      obtain ⟨ad, A', c', eA, hcell, hle, hC⟩ := at_piece8 (HK.out _ hb.out).1 k hlt
      subst eA
      have hcl := HLC.out (l.getD k []) (by rw [List.getD_eq_getElem?_getD, List.getElem?_eq_getElem hlt]; exact List.getElem_mem hlt)
      clear hC
      have HT := Aside0.mk (totL_take l k hlt)
      generalize l.getD k [] = ci at *
      generalize totL (l.take k) = tk at *
      have hw2 : IntKind.i64.wrap ((k : Int) + 1) = (k : Int) + 1 := by
        unfold IntKind.wrap
        simp [IntKind.bits, IntKind.signed]
        omega
      have hw3 : IntKind.i64.wrap ((tk : Int) + (ci.length : Int)) = (tk : Int) + (ci.length : Int) := by
        unfold IntKind.wrap
        simp [IntKind.bits, IntKind.signed]
        omega
      by_cases h3 : tk + ci.length ≤ 300
      · have h3' : ¬ (300 : Int) < (tk : Int) + (ci.length : Int) := by omega
        go_wp2_with fail
        go_roundw
        case rel => exact ⟨k + 1, by go_num, by rw [HT.out]; go_num, by omega, by rw [HT.out]; exact h3, hb⟩
        case measure => simp [intOf]; omega
      · have h3' : (300 : Int) < (tk : Int) + (ci.length : Int) := by omega
        go_wp2
        go_ret
        exact ⟨rfl, hb.out⟩
    · obtain rfl : k = l.length := by omega
      have ht1 : totL l ≤ 300 := by rwa [List.take_of_length_le (Nat.le_refl _)] at ht
      have B4 := Aside0.mk hb.out
      clear hb B2 hk hlt
      generalize totL (l.take l.length) = tt at *
      have hlc : ∀ c ∈ l, c.length ≤ 300 := fun c hc => Nat.le_trans (totL_mem l c hc) ht1
      have hte : ∀ c ∈ bytesOf ext, textB c = true ∧ c ≠ 13 := textI_B HXT.out
      have hel : (bytesOf ext).length = ext.size := bytesOf_length ext
      have hes : (⟨#[59]⟩ : ByteArray).size = 1 := rfl
      have heb : bytesOf ((⟨#[59]⟩ : ByteArray) ++ ext) = 59 :: bytesOf ext := by rw [bytesOf_appendM]; rfl
      have hle1 : (59 :: bytesOf ext).length = ext.size + 1 := by rw [List.length_cons, hel]
      have hlen := putP_len (59 :: bytesOf ext) l [] (fun c hc => by have := hlc c hc; omega) (fun f hf => absurd hf List.not_mem_nil)
      have hBP := putB_bytes l ((⟨#[59]⟩ : ByteArray) ++ ext) [] HB0.out
      rw [heb] at hBP
      obtain ⟨X, hX, hXd, hXf⟩ := run_putP (e0 := 1 + ext.size + x) (e1 := 0) (e2 := 0) (59 :: bytesOf ext) ⟨by rw [hle1]; omega, .inr ⟨_, rfl, hte⟩⟩ l [] [] (fun c hc => by have := hlc c hc; omega) (fun f hf => absurd hf List.not_mem_nil) (Nat.le_refl _) (by unfold linesP; exact Nat.le_refl _)
      rw [List.append_nil] at hX
      obtain ⟨m, rst, hhd, hmm⟩ := putP_head (bytesOf ext) [] l (fun c hc => by have := hlc c hc; omega)
      obtain ⟨Z, hZ⟩ := run_extLimit (e1 := 0) (e2 := 0) (bytesOf ext) rst hte m hmm
      rw [← hhd, hel] at hZ
      have hPB : ByteL (putP (59 :: bytesOf ext) l []) := by rw [← hBP]; exact bytesOf_byteM _
      have hlp : (putP (59 :: bytesOf ext) l []).length ≤ 10000 := by
        rw [hle1] at hlen
        have : sumF [] = 0 := rfl
        have h1 : (20 + (ext.size + 1)) * (l.length + 1) ≤ 71 * 6 := Nat.mul_le_mul (by omega) (by omega)
        omega
      have hs1 := scanF_eq (1 + ext.size + x) 0 0 (putP (59 :: bytesOf ext) l []) hPB (by omega) (by omega) (by omega) (by omega)
      have hs2 := scanF_eq ext.size 0 0 (putP (59 :: bytesOf ext) l []) hPB (by omega) (by omega) (by omega) (by omega)
      rw [hX, toldB_ok rfl] at hs1
      unfold runB at hs2
      rw [hZ, toldB_err (by simp)] at hs2
      dsimp only at hs1 hs2
      rw [hXd, hXf] at hs1
      have h59 : ∀ j : Nat, j < (hexL m).length → (putP (59 :: bytesOf ext) l []).getD j 0 ≠ 59 := fun j hj => by
        rw [hhd, List.getD_eq_getElem?_getD, List.getElem?_append_left hj, List.getElem?_eq_getElem hj]
        exact hexL_no59 m _ (List.getElem_mem hj)
      have h59b : (putP (59 :: bytesOf ext) l []).getD (hexL m).length 0 = 59 := by
        rw [hhd, List.getD_eq_getElem?_getD, List.getElem?_append_right (Nat.le_refl _), Nat.sub_self]
        rfl
      have hpl : (hexL m).length < (putP (59 :: bytesOf ext) l []).length := by
        rw [hhd, List.length_append, List.length_cons]; omega
      have hj := Join_eq l (by omega) (by omega)
      have hfl := flatten_length l
      have hFl : l.flatten.length ≤ 300 := by omega
      have hsame : catchpitref08_Same.f 1000001 l.flatten l.flatten = some true := by rw [Same8_eq _ _ (by omega) _ (by omega), decide_eq_true rfl]
      have HPU := Aside0.mk (fun W (h : Below w.heap.size w W) => refPut8_calls A0 c0 l ((⟨#[59]⟩ : ByteArray) ++ ext) none 0 [] W (HK.out W h).1 ⟨rfl, Nat.zero_le _, fun h => absurd h (Nat.lt_irrefl _)⟩ (HK.out W h).2 (smallPut_of l _ [] (by omega) (by omega) (by rw [ByteArray.size_append, hes]; omega) (Nat.zero_le _)))
      rw [hBP] at HPU
      have HS1 := Aside0.mk hs1
      have HS2 := Aside0.mk hs2
      have HJ := Aside0.mk hj
      have HSA := Aside0.mk hsame
      have H59 := Aside0.mk h59
      clear hlen hBP hX hXd hXf hPB hs1 hs2 hj hsame hlc X hZ Z hhd hmm h59 hte heb hle1 hfl HB0 HLC HXT hes
      generalize putP (59 :: bytesOf ext) l [] = S at *
      generalize l.flatten = F at *
      generalize (hexL m).length = pos at *
      have y1 : ¬ 9223372036854775807 < 1 + ext.size := by omega
      have ecast : ((1 + ext.size + x : Nat) : Int) = 1 + (ext.size : Int) + (x : Int) := by omega
      rw [ecast] at HS1
      have q0 : IntKind.i64.wrap (1 + (ext.size : Int)) = 1 + (ext.size : Int) := by
        unfold IntKind.wrap
        simp [IntKind.bits, IntKind.signed]
        omega
      have q1 : IntKind.i64.wrap (1 + (ext.size : Int) + (x : Int)) = 1 + (ext.size : Int) + (x : Int) := by
        unfold IntKind.wrap
        simp [IntKind.bits, IntKind.signed]
        omega
      have q2 : IntKind.i64.wrap (x : Int) = (x : Int) := by
        unfold IntKind.wrap
        simp [IntKind.bits, IntKind.signed]
        omega
      go_wp2_with fail
      refine (HPU.out _ B4.out).mono ?_
      rintro e w5 ⟨v5, rfl, ⟨A5, c5, rfl, hc5, hC5⟩, hb5⟩
      have B5 := Aside0.mk (B4.out.trans (hb5.mono B4.out.size))
      have HS := Aside0.mk (fun W (h : Below w5.heap.size w5 W) => Kd.C_below hC5 h)
      have HSC1 := Aside0.mk (body_Scan.calls A5 c5 S (1 + (ext.size : Int) + (x : Int)) 0 0 F [] (S.length : Int) (S.length : Int) 0 w5 hC5 hc5 (HK.out _ B5.out).2 HS1.out)
      clear hb5 hC5 B4 HPU HS1
      go_wp2_with fail
      refine HSC1.out.mono ?_
      rintro e w6 ⟨v8, v9, rfl, hv0, hv1, hb6⟩
      obtain ⟨y0, y1, rfl⟩ := Kd.R_slice hv0
      obtain ⟨z0, z1, rfl⟩ := Kd.R_slice hv1
      have B6 := Aside0.mk (B5.out.trans (hb6.mono B5.out.size))
      have HS6 := Aside0.mk (fun W (h : Below w6.heap.size w6 W) => HS.out W (hb6.trans (h.mono hb6.size)))
      have HV0 := Aside0.mk hv0
      clear hv0 hv1 hb6 HSC1 HS
      go_wp2_with fail
      obtain ⟨w7, hw7⟩ : ∃ w7, w6.alloc (.cells #[.slice y0 F.length y1, .slice z0 0 z1, .int .i64 (S.length : Int)] 57) = w7 := ⟨_, rfl⟩
      have hd7 : w7.heap[w6.heap.size]? = some (.cells #[.slice y0 F.length y1, .slice z0 0 z1, .int .i64 (S.length : Int)] 57 (0, 0)) := by
        rw [← hw7]; exact World.alloc_heap_new w6 _
      have B7 := Aside0.mk (show Below w.heap.size w w7 by rw [← hw7]; exact below_alloc B6.out _)
      have b67 : Below w6.heap.size w6 w7 := by rw [← hw7]; exact below_alloc (Below.refl _ _) _
      have HV07 := Kd.R_alloc HV0.out (.cells #[.slice y0 F.length y1, .slice z0 0 z1, .int .i64 (S.length : Int)] 57)
      rw [hw7] at HV07 ⊢
      obtain ⟨_, _, qe, hy1, hC0⟩ := Kd.R_reads HV07
      cases qe
      have HCE := Aside0.mk (fun (W : World) (h : Below w7.heap.size w7 W) => (show W.cell? ⟨w6.heap.size, 0, none⟩ = some (.slice y0 F.length y1) ∧ W.cell? ⟨w6.heap.size, 1, none⟩ = some (.slice z0 0 z1) ∧ W.cell? ⟨w6.heap.size, 2, none⟩ = some (.int .i64 (S.length : Int)) from
        ⟨(blk_cell ((h.block _ (blk_lt hd7)).trans hd7) 0).trans rfl, (blk_cell ((h.block _ (blk_lt hd7)).trans hd7) 1).trans rfl, (blk_cell ((h.block _ (blk_lt hd7)).trans hd7) 2).trans rfl⟩))
      have HFR := Aside0.mk (fun (W : World) (h : Below w7.heap.size w7 W) => Kd.C_below hC0 h)
      have HS7 := Aside0.mk (fun W (h : Below w7.heap.size w7 W) => HS6.out W (b67.trans (h.mono b67.size)))
      have HTB := Aside0.mk (fun (W : World) (h : Below w7.heap.size w7 W) => HK.out W (B7.out.trans (h.mono B7.out.size)))
      have HSC2 := Aside0.mk (body_Scan.calls A5 c5 S (ext.size : Int) 0 0 [] [] 0 ((pos + ext.size : Nat) : Int) 5 w7 (HS7.out _ (Below.refl _ _)) hc5 (HTB.out _ (Below.refl _ _)).2 HS2.out)
      clear hw7 hd7 HV0 HV07 hC0 b67 HS6 B6 B5 HS2
      refine HSC2.out.mono ?_
      rintro e w8 ⟨v8, v9, rfl, hv0, hv1, hb8⟩
      obtain ⟨y2, y3, rfl⟩ := Kd.R_slice hv0
      obtain ⟨z2, z3, rfl⟩ := Kd.R_slice hv1
      have HE8 := Aside0.mk hb8
      clear hb8 hv0 hv1 HSC2
      obtain ⟨d0, d1, d2⟩ := HCE.out _ HE8.out
      have hlt8 : w6.heap.size < w8.heap.size := World.block_lt_of_cell? _ _ d0
      clear d0 d1 d2
      go_wp2_with fail
      have HE9 := Aside0.mk (below_alloc HE8.out (.cells #[.slice y2 0 y3, .slice z2 0 z3, .int .i64 0] 57))
      go_loopw [17] (fun u17 wr => ∃ k : Nat, u17 = .int .i64 (k : Int) ∧ k ≤ pos ∧ Aside0 (Below w7.heap.size w7 wr)) (fun u17 _ => pos - (intOf u17).toNat)
      case atStart => exact ⟨0, rfl, Nat.zero_le _, HE9⟩
      case round =>
        obtain ⟨k, rfl, hk, hb⟩ := hrel
        have hkS : k < S.length := by omega
        have hkS' : (k : Int) < (S.length : Int) := by omega
        have hge' : (0 : Int) ≤ (k : Int) := by omega
        obtain ⟨ad, eA, _, hcell⟩ := C_u8 (HS7.out _ hb.out) (by omega)
        have hck := hcell k (S.getD k 0) (by rw [List.getD_eq_getElem?_getD, List.getElem?_eq_getElem hkS]; rfl)
        clear hcell
        have hw2 : IntKind.i64.wrap ((k : Int) + 1) = (k : Int) + 1 := by
          unfold IntKind.wrap
          simp [IntKind.bits, IntKind.signed]
          omega
        by_cases hlt : k < pos
        · have hv1 := H59.out k hlt
          subst eA
          generalize S.getD k 0 = v at *
          have hv2 : (v == 59) = false := by rw [beq_eq_false_iff_ne]; exact hv1
          have hv3 : (v != 59) = true := by rw [bne, hv2]; rfl
          go_wp2_with fail
          go_roundw
          case rel => exact ⟨k + 1, by go_num, by omega, hb⟩
          case measure => simp [intOf]; omega
        · obtain rfl : k = pos := by omega
          rw [h59b] at hck
          have HB10 := Aside0.mk hb.out
          subst eA
          clear hb HE9 HE8 HS7
          have HJC := Aside0.mk (fun (W : World) (h : Below w7.heap.size w7 W) => catchpitref08_Join.calls 1001 A0 c0 l F W (HTB.out W h).1 HC0.out (HTB.out W h).2 HJ.out)
          have HSS := Aside0.mk (fun (W : World) (h : Below w7.heap.size w7 W) (A : Option Addr) (c : Nat) (hA : Kd.C (Kd.int .u8) W A F.length F) (hc : F.length ≤ c) => catchpitref08_Same.calls 1000001 y0 y1 F A c F true W (HFR.out W h) hy1 hA hc (HTB.out W h).2 HSA.out)
          have HA7 := Aside0.mk (fun W W' (h : Below w7.heap.size w7 W) (h2 : Below W.heap.size W W') => h.trans (h2.mono h.size))
          have q3 : IntKind.i64.wrap ((k : Int) + (ext.size : Int)) = (k : Int) + (ext.size : Int) := by
            unfold IntKind.wrap
            simp [IntKind.bits, IntKind.signed]
            omega
          obtain ⟨d0, d1, d2⟩ := HCE.out _ (below_drew HB10.out)
          have HD := Aside0.mk (below_drew HB10.out)
          go_wp2_with fail
          go_region_held3 (fun W => W.cell? ⟨w6.heap.size, 0, none⟩ = some (.slice y0 F.length y1) ∧ W.cell? ⟨w6.heap.size, 1, none⟩ = some (.slice z0 0 z1) ∧ W.cell? ⟨w6.heap.size, 2, none⟩ = some (.int .i64 (S.length : Int))) (first | with_reducible exact ⟨d0, d1, d2⟩ | with_reducible exact ⟨x0, x1, x2⟩ | assumption)
            (first
              | (go_at_call 33; refine (HJC.out _ HD.out).mono ?_; rintro e w11 ⟨v10, rfl, hv10, hb11⟩; obtain ⟨A10, k10, rfl, hc10, hC10⟩ := Kd.R_reads hv10; have HB11 := Aside0.mk (HA7.out _ _ HD.out hb11); have HC11 := Aside0.mk hC10; obtain ⟨x0, x1, x2⟩ := HCE.out _ HB11.out; clear hv10 hC10 hb11)
              | (go_at_call 22; refine (HSS.out _ HB11.out _ _ HC11.out hc10).mono ?_; rintro e w12 ⟨rfl, hb12⟩; have HB12 := Aside0.mk (HA7.out _ _ HB11.out hb12.below); obtain ⟨x0, x1, x2⟩ := HCE.out _ HB12.out; clear hb12))
          go_wp2
          go_ret
          exact ⟨rfl, B7.out.trans (HB12.out.mono B7.out.size)⟩
set_option maxHeartbeats 4000000 in
set_option maxRecDepth 100000 in
theorem ext_out (A0 : Option Addr) (c0 : Nat) (l : List (List Int)) (ext : ByteArray) (x : Int) (w : World) (hr0 : Kd.C KB8 w A0 l.length l) (hG : TabOk w) (he : ext.size ≤ 140737488351232) (ho : 5 < l.length ∨ 50 < ext.size ∨ allB textI ext = false) :
    Calls Tryd.prog 9 #[.slice A0 l.length c0, .string ext, .int .u8 x] w fun e w' => e = .returned (.bool true) ∧ Below w.heap.size w w' := by
  have hm0 : l.length ≤ 9223372036854775807 := hr0.2.1
  have HW := Aside0.mk (fun W hg => catchpitlaw08_wakes.calls true W hg rfl)
  have HG := Aside0.mk (fun (W : World) (h : Below w.heap.size w W) => hG.below h)
  by_cases h5 : 5 < l.length
  · have d5' : (5 : Int) < (l.length : Int) := by omega
    have d5 : decide ((5 : Int) < (l.length : Int)) = true := decide_eq_true d5'
    clear hr0 hG ho
    go_enter Tryd.func9, Tryd.ntmps9
    go_wp2_with fail
    refine (HW.out w (HG.out _ (Below.refl _ _))).mono ?_
    rintro e w1 ⟨rfl, hb1⟩
    have B1 := Aside0.mk hb1
    clear hb1
    go_wp2
    go_ret
    exact ⟨rfl, B1.out⟩
  · have d5' : ¬ (5 : Int) < (l.length : Int) := by omega
    have d5 : decide ((5 : Int) < (l.length : Int)) = false := decide_eq_false d5'
    by_cases h50 : 50 < ext.size
    · have d50' : (50 : Int) < (ext.size : Int) := by omega
      have d50 : decide ((50 : Int) < (ext.size : Int)) = true := decide_eq_true d50'
      clear hr0 hG ho
      go_enter Tryd.func9, Tryd.ntmps9
      go_wp2_with fail
      refine (HW.out w (HG.out _ (Below.refl _ _))).mono ?_
      rintro e w1 ⟨rfl, hb1⟩
      have B1 := Aside0.mk hb1
      clear hb1
      go_wp2
      go_ret
      exact ⟨rfl, B1.out⟩
    · have d50' : ¬ (50 : Int) < (ext.size : Int) := by omega
      have d50 : decide ((50 : Int) < (ext.size : Int)) = false := decide_eq_false d50'
      have htx : allB textI ext = false := by
        rcases ho with h | h | h
        · exact absurd h h5
        · exact absurd h h50
        · exact h
      obtain ⟨K, hK⟩ := ref02_Text ext (by omega)
      have htt := hK K (Nat.le_refl _)
      rw [htx] at htt
      have HTX := Aside0.mk (fun (W : World) (h : Below w.heap.size w W) => catchpitref02_Text.calls K ext false W (hG.below h) htt)
      clear hr0 hG ho hK htt
      go_enter Tryd.func9, Tryd.ntmps9
      go_wp2_with fail
      refine (HW.out w (HG.out _ (Below.refl _ _))).mono ?_
      rintro e w1 ⟨rfl, hb1⟩
      have B1 := Aside0.mk hb1
      clear hb1
      go_wp2_with fail
      refine (HTX.out w1 B1.out).mono ?_
      rintro e w2 ⟨rfl, hb2⟩
      have B2 := Aside0.mk (B1.out.trans (hb2.below.mono B1.out.size))
      clear hb2
      go_wp2
      go_ret
      exact ⟨rfl, B2.out⟩
def catchpitlaw08_BodyExtensions.f (l : List (List Int)) (ext : ByteArray) (x : Int) : Option Bool := if wfPutB l [] = true ∧ ext.size ≤ 140737488351232 ∧ 0 ≤ x ∧ x ≤ 255 then some true else none
theorem catchpitlaw08_BodyExtensions.calls (A0 : Option Addr) (c0 : Nat) (l0 : List (List Int)) (a1 : ByteArray) (a2 : Int) (r : Bool) (w : World) (hr0 : Kd.C (Kd.slice 5 (Kd.int .u8)) w A0 l0.length l0) (hc0 : l0.length ≤ c0) (hG : TabOk w) (h : catchpitlaw08_BodyExtensions.f l0 a1 a2 = some r) :
    Calls Tryd.prog 9 #[.slice A0 l0.length c0, .string a1, .int .u8 a2] w fun e w' => e = .returned (.bool r) ∧ Below w.heap.size w w' := by
  unfold catchpitlaw08_BodyExtensions.f at h
  split at h
  · rename_i hh
    cases h
    obtain ⟨hw, he, h4, h5⟩ := hh
    obtain ⟨h1, _, _⟩ := wfPut_iff.1 hw
    by_cases ho : 5 < l0.length ∨ 50 < a1.size ∨ allB textI a1 = false
    · exact ext_out A0 c0 l0 a1 a2 w hr0 hG he ho
    · obtain ⟨x, rfl⟩ := Int.eq_ofNat_of_zero_le h4
      exact ext_go A0 c0 l0 a1 x w hr0 hc0 hG (fun c hc => (h1 c hc).1) (fun c hc => (h1 c hc).2) (by omega) (by omega) (by
        cases q : allB textI a1 with
        | true => rfl
        | false => exact absurd (.inr (.inr q)) ho) (by omega)
  · cases h
end Go.Proofs.YtmmbpbgcobmifaaDoor.Px
end
section
namespace Go.Proofs.YtmmbpbgcobmifaaDoor.Pr
end Go.Proofs.YtmmbpbgcobmifaaDoor.Pr
namespace Go.Proofs.YtmmbpbgcobmifaaDoor.Py
end Go.Proofs.YtmmbpbgcobmifaaDoor.Py
namespace Go.Proofs.YtmmbpbgcobmifaaDoor.Px
end Go.Proofs.YtmmbpbgcobmifaaDoor.Px
namespace Go.Proofs.YtmmbpbgcobmifaaDoor.Pure
open Go.RowKit Go.Proofs.YtmmbpbgcobmifaaDoorH Go.Proofs.YtmmbpbgcobmifaaDoor.Pr Go.Proofs.YtmmbpbgcobmifaaDoor.Py Go.Proofs.YtmmbpbgcobmifaaDoor.Px Go.Proofs.YtmmbpbgcobmifaaDoorW.PrintWords Go.Proofs.YtmmbpbgcobmifaaDoorW.PrintLast
theorem wf_u8X {x : Int} (h : (Lit.int .u8 x).wf = true) : 0 ≤ x ∧ x ≤ 255 := by
  have m2 : IntKind.u8.max = 255 := rfl
  have m1 : IntKind.u8.min = 0 := rfl
  simp [Lit.wf, m1, m2] at h
  omega
theorem wf_bytesX {l : List Int} (h : ∀ y ∈ l, (Lit.int .u8 y).wf = true) : ByteL l := fun x hx => wf_u8X (h x hx)
theorem BodyExtensions (l : List (List Int)) (e : ByteArray) (x : Int) (hl : l.length * 24 ≤ 140737488351232 ∧ ∀ y ∈ l, (y.length * 1 ≤ 140737488351232 ∧ ∀ z ∈ y, (Lit.int .u8 z).wf = true)) (he : e.size ≤ 140737488351232) (hx : (Lit.int .u8 x).wf = true) :
    catchpitlaw08_BodyExtensions.f l e x = some true := if_pos ⟨wfPut_iff.2 ⟨fun c hc => ⟨wf_bytesX (hl.2 c hc).2, by have := (hl.2 c hc).1; omega⟩, fun f hf => absurd hf List.not_mem_nil, Nat.zero_le _⟩, he, wf_u8X hx⟩
end Go.Proofs.YtmmbpbgcobmifaaDoor.Pure
end
section
namespace Go.Proofs.YtmmbpbgcobmifaaDoorH
open Go.RowKit Go.ChangeShapes Go.WideShapes Go.ChangeAt
theorem two_of {α : Type} {l : List α} (h : l.length = 2) : ∃ a b, l = [a, b] := by
  match l, h with
  | [a, b], _ => exact ⟨a, b, rfl⟩
theorem three_of {α : Type} {l : List α} (h : l.length = 3) : ∃ a b c, l = [a, b, c] := by
  match l, h with
  | [a, b, c], _ => exact ⟨a, b, c, rfl⟩
theorem six_of {α : Type} {l : List α} (h : l.length = 6) : ∃ a b c d e f, l = [a, b, c, d, e, f] := by
  match l, h with
  | [a, b, c, d, e, f], _ => exact ⟨a, b, c, d, e, f, rfl⟩
theorem cells_of_one {W : World} {cs : List Value} {y : DataW Unit × List MemPlace} {m : Nat} {x0 : Int}
    (hd : DataW.trod (fun _ => ()) Tryd.prog W 0 (fun _ => true) false m 5 cs = some y) (hy : y.1 = .lit (.int .u8 x0)) : cs = [.int .u8 x0] := by
  obtain ⟨n, e1, e2, _⟩ := DataW.trod_int Tryd.underlying5 hd
  rw [e2] at hy
  simp only [DataW.lit.injEq, Lit.int.injEq, true_and] at hy
  rw [e1, hy]
theorem cells_of_pair {W : World} {cs : List Value} {y : DataW Unit × List MemPlace} {m : Nat} {x0 x1 : Int}
    (hd : DataW.trod (fun _ => ()) Tryd.prog W 0 (fun _ => true) false m 109 cs = some y) (hy : y.1 = .agg [.lit (.int .u8 x0), .lit (.int .u8 x1)]) :
    cs = [.int .u8 x0, .int .u8 x1] := by
  have c5 : Tryd.prog.cellsOf 5 = 1 := by kernel_rfl
  have c2 : Tryd.prog.cellsOf 109 = 2 := by kernel_rfl
  obtain ⟨xs, m, _, ex, hn, hl, hel⟩ := DataW.trod_array Tryd.underlying109 hd
  rw [c2] at hn
  obtain ⟨a, b, rfl⟩ := two_of hn
  obtain ⟨u, v, rfl⟩ := two_of hl
  · rw [ex] at hy
    simp only [List.map_cons, List.map_nil, DataW.agg.injEq, List.cons.injEq, and_true] at hy
    have h0 := hel 0 (by omega)
    have h1 := hel 1 (by omega)
    simp only [c5] at h0 h1
    have e0 := cells_of_one (y := u) (by simpa using h0) hy.1
    have e1 := cells_of_one (y := v) (by simpa using h1) hy.2
    simp at e0 e1
    rw [e0, e1]
theorem cells_of_pairs {W : World} {cs : List Value} {y : DataW Unit × List MemPlace} {m : Nat} {x0 x1 x2 x3 x4 x5 : Int}
    (hd : DataW.trod (fun _ => ()) Tryd.prog W 0 (fun _ => true) false m 110 cs = some y)
    (hy : y.1 = .agg [.agg [.lit (.int .u8 x0), .lit (.int .u8 x1)], .agg [.lit (.int .u8 x2), .lit (.int .u8 x3)], .agg [.lit (.int .u8 x4), .lit (.int .u8 x5)]]) :
    cs = [.int .u8 x0, .int .u8 x1, .int .u8 x2, .int .u8 x3, .int .u8 x4, .int .u8 x5] := by
  have c2 : Tryd.prog.cellsOf 109 = 2 := by kernel_rfl
  have c6 : Tryd.prog.cellsOf 110 = 6 := by kernel_rfl
  obtain ⟨xs, m, _, ex, hn, hl, hel⟩ := DataW.trod_array Tryd.underlying110 hd
  rw [c6] at hn
  obtain ⟨a, b, c, d, e, f, rfl⟩ := six_of hn
  obtain ⟨u, v, z, rfl⟩ := three_of hl
  · rw [ex] at hy
    simp only [List.map_cons, List.map_nil, DataW.agg.injEq, List.cons.injEq, and_true] at hy
    have h0 := hel 0 (by omega)
    have h1 := hel 1 (by omega)
    have h2 := hel 2 (by omega)
    simp only [c2] at h0 h1 h2
    have e0 := cells_of_pair (y := u) (by simpa using h0) hy.1
    have e1 := cells_of_pair (y := v) (by simpa using h1) hy.2.1
    have e2 := cells_of_pair (y := z) (by simpa using h2) hy.2.2
    simp at e0 e1 e2
    rw [e0.1, e0.2, e1.1, e1.2, e2.1, e2.2]
theorem tabOk_of_laid {W : World} {L : List (String × DataW Unit)} (h : laidMetH Tryd.prog L W) (hp : (L.all fun x => x.2.handleName?.isNone) = true)
    (hf : L.filter (fun x => x.1 == "catchpit/octet.ends") = [("catchpit/octet.ends", Go.Proofs.YtmmbpbgcobmifaaDoor.Rows.laid_catchpit_octet_ends)]) (hs : W.ShapedOpen Tryd.prog) : TabOk W := by
  rw [MakeChecks.laidMetH_plain _ _ _ hp] at h
  have h2 := laidMet.filter (fun x => x.1 == "catchpit/octet.ends") h
  rw [hf] at h2
  obtain ⟨ps, ⟨g, t, cs, fuel, p, q, hg, ht, hv, hd, _, _⟩, _, _⟩ := h2
  obtain rfl := Option.some.inj ((show Tryd.prog.globalNamed "catchpit/octet.ends" = some 0 by kernel_rfl).symm.trans hg)
  obtain rfl := Option.some.inj ((show (Tryd.prog.globals[0]?).map (·.type) = some 110 by kernel_rfl).symm.trans ht)
  have e := cells_of_pairs hd rfl
  have hc := World.var?_cell hg hv
  have at_ : ∀ j, cs[j]? = cs.toList[j]? := fun j => (Array.getElem?_toList ..).symm
  rw [e] at at_
  exact ⟨(hc 0).trans (at_ 0), (hc 1).trans (at_ 1), (hc 2).trans (at_ 2), (hc 3).trans (at_ 3), (hc 4).trans (at_ 4), (hc 5).trans (at_ 5), MxOk.of_shaped hs⟩
end Go.Proofs.YtmmbpbgcobmifaaDoorH
end
section
namespace Go.Proofs.YtmmbpbgcobmifaaDoorH
open Go
variable {H : Type} {enc : TypeId × Value → H}
theorem returns_and_shaped {a : Assume} {C : Checked} {os : Os} {f : FuncId} {fn : Func} {s : ChangeSpec} {conds : List PathCond} {apart fresh handsOn again : Bool} {X : World → Array Value → Prop}
    (hX : ∀ (w w' : World) (args : Array Value), w.heap = w'.heap → X w args → X w' args)
    (own : ownKnob C.prog.godebug = none) (started : os.Started) (noInit : C.prog.inits.idxOf? f = none) (hfn : C.prog.funcs[f]? = some fn)
    (witness : ∃ (w : World) (tape : Tape) (i : Input), w.os = os ∧ (w.forCall tape i).Shaped C.prog ∧ i.vars = [] ∧ Input.okWide C.prog (w.forCall tape i) .any w.heap.size f i ∧
      ((s.pre enc C.prog fn conds apart (w.forCall tape i).memory i.args ∧ X (w.forCall tape i).memory i.args) ∧ sizedMet enc C.prog fn (OpenSpec.ofChange s) apart (w.forCall tape i).memory i.args) ∧ a.holds C.prog (lone (Frame.enter C.prog f i.args .normal) [] (w.forCall tape i)))
    (contract : ∀ (W : World) (base : Nat) (args : Array Value) (ds gs : List (DataW H)) (before : List MemPlace),
      (∀ (j : Nat) t v, fn.params[j]? = some t → args[j]? = some v → Value.okWide C.prog W .any base t v) →
      DataW.Whole enc C.prog fn.params.toList s.vars apart W args.toList ds gs before →
      conds.all (PathCond.test C.prog ⟨fn.params.toList, ds, s.plain.varTypes C.prog, gs⟩) = true →
      (DataW.weightsEach C.prog (fn.params.toList ++ s.plain.varTypes C.prog) (ds ++ gs)).all (· ≤ reachBytes) = true → X W args →
      W.ShapedOpen C.prog →
      a.holds C.prog (lone (Frame.enter C.prog f args .normal) [] W) →
      Calls C.prog f args W fun e W' => ∃ v, e = .returned v ∧ s.post enc C.prog fn apart fresh handsOn again W args v W') :
    ReturnsInHanded a C os f .any (fun w args => (s.pre enc C.prog fn conds apart w args ∧ X w args) ∧ sizedMet enc C.prog fn (OpenSpec.ofChange s) apart w args) (s.post enc C.prog fn apart fresh handsOn again) := by
  refine returnsInHanded_of_calls own started noInit witness ?_
  intro w tape i _ hsh _ hok hpre hholds
  obtain ⟨_, _, _, fn', hfn', _, _, _, _, hval⟩ := hok
  have e : fn' = fn := Option.some.inj (hfn'.symm.trans hfn)
  subst e
  obtain ⟨⟨⟨ds, gs, before, hw, hc⟩, hx⟩, hz⟩ := hpre
  have hw' := DataW.Whole.of_heap (w' := w.forCall tape i) (by rfl) hw
  refine (contract (w.forCall tape i) w.heap.size i.args ds gs before hval hw' hc (hz.weights hw) (hX _ _ _ (by rfl) hx) hsh hholds).mono fun e W' ⟨v, he, hp⟩ => ?_
  subst he
  exact ChangeSpec.post_blind hp
end Go.Proofs.YtmmbpbgcobmifaaDoorH
end
