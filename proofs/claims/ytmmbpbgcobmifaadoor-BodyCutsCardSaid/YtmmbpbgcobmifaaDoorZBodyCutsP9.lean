import Derived.Test.YtmmbpbgcobmifaaDoorZBodyCutsP8
import Derived.Test.YtmmbpbgcobmifaaDoorZBodyCutsP7
import Derived.Test.YtmmbpbgcobmifaaDoorZBodyCutsP6
import Derived.Test.YtmmbpbgcobmifaaDoorZBodyCutsP1
import Derived.Test.YtmmbpbgcobmifaaDoorRows
import Derived.LaidSub
import Derived.MakeChecks
import Derived.ProofKit
import Derived.OpenShut
import Derived.LaidMore
import Derived.HandedShaped
import Derived.Handed
import Derived.SizedLaws
namespace Go.Proofs.YtmmbpbgcobmifaaDoorH
end Go.Proofs.YtmmbpbgcobmifaaDoorH
namespace Go.Proofs.YtmmbpbgcobmifaaDoor.Pr
end Go.Proofs.YtmmbpbgcobmifaaDoor.Pr
namespace Go.Proofs.YtmmbpbgcobmifaaDoor.Py
end Go.Proofs.YtmmbpbgcobmifaaDoor.Py
namespace Go.Proofs.YtmmbpbgcobmifaaDoorW.PrintWords
end Go.Proofs.YtmmbpbgcobmifaaDoorW.PrintWords
namespace Go.Proofs.YtmmbpbgcobmifaaDoorW.PrintLast
end Go.Proofs.YtmmbpbgcobmifaaDoorW.PrintLast
namespace Go.Proofs.YtmmbpbgcobmifaaDoorW.PrintMore
end Go.Proofs.YtmmbpbgcobmifaaDoorW.PrintMore
namespace Go.Proofs.YtmmbpbgcobmifaaDoorM
end Go.Proofs.YtmmbpbgcobmifaaDoorM
namespace Go.Proofs.YtmmbpbgcobmifaaDoor.Pc
end Go.Proofs.YtmmbpbgcobmifaaDoor.Pc
section
namespace Go.Proofs.YtmmbpbgcobmifaaDoor.Pr
end Go.Proofs.YtmmbpbgcobmifaaDoor.Pr
namespace Go.Proofs.YtmmbpbgcobmifaaDoor.Py
end Go.Proofs.YtmmbpbgcobmifaaDoor.Py
namespace Go.Proofs.YtmmbpbgcobmifaaDoor.Pc
set_option linter.unusedVariables false
set_option linter.unusedSimpArgs false
open Go Go.RowKit Go.Proofs.YtmmbpbgcobmifaaDoorH Go.Proofs.YtmmbpbgcobmifaaDoor.Pr Go.Proofs.YtmmbpbgcobmifaaDoor.Py Go.Proofs.YtmmbpbgcobmifaaDoorW.PrintWords Go.Proofs.YtmmbpbgcobmifaaDoorW.PrintLast Go.Proofs.YtmmbpbgcobmifaaDoorW.PrintMore Go.Proofs.YtmmbpbgcobmifaaDoorM
theorem C_none8 {α : Type} (d : Kd α) (w : World) (A : Option Addr) : Kd.C d w A ([] : List α).length [] := ⟨rfl, Nat.zero_le _, fun h => absurd h (Nat.lt_irrefl _)⟩
set_option maxHeartbeats 4000000 in
set_option maxRecDepth 100000 in
theorem cuts_go (A0 : Option Addr) (c0 : Nat) (l : List (List Int)) (A1 : Option Addr) (c1 : Nat) (fs : List Fld) (x : Nat) (w : World) (hr0 : Kd.C KB8 w A0 l.length l) (hc0 : l.length ≤ c0) (hr1 : Kd.C k53 w A1 fs.length fs) (hc1 : fs.length ≤ c1) (hG : TabOk w) (hb0 : ∀ c ∈ l, ByteL c) (hlc : ∀ c ∈ l, c.length ≤ 140737488351232) (hsm : Small1 fs) (hn : fs.length ≤ 140737488351232) (h10 : l.length ≤ 10) (hx : x ≤ 65535) (hsum : sumF fs ≤ 2000) :
    Calls Tryd.prog 11 #[.slice A0 l.length c0, .slice A1 fs.length c1, .int .u16 (x : Int)] w fun e w' => e = .returned (.bool true) ∧ Below w.heap.size w w' := by
  obtain ⟨K, hK⟩ := ref05_Great fs hsm hn
  have hgr := hK K (Nat.le_refl _)
  rw [decide_eq_false (by omega)] at hgr
  have hnf := sumF_length fs
  have HW := Aside0.mk (fun W hg => catchpitlaw08_wakes.calls true W hg rfl)
  have HK := Aside0.mk (fun (W : World) (h : Below w.heap.size w W) => (⟨Kd.C_below hr0 h, Kd.C_below hr1 h, hG.below h⟩ : Kd.C KB8 W A0 l.length l ∧ Kd.C k53 W A1 fs.length fs ∧ TabOk W))
  have HGR := Aside0.mk (fun (W : World) (h : Below w.heap.size w W) => catchpitref05_Great.calls K A1 c1 fs false W (Kd.C_below hr1 h) hc1 (hG.below h) hgr)
  have HRT := Aside0.mk (fun (f : Fld) (hf : f ∈ fs) => ref05_Right f.f0 f.f1 (by have := hsm f hf; omega) (by have := hsm f hf; omega))
  have HSM := Aside0.mk hsm
  have HC0 := Aside0.mk hc0
  have HB0 := Aside0.mk hb0
  have HLC := Aside0.mk hlc
  have d10 : decide ((10 : Int) < (l.length : Int)) = false := decide_eq_false (by omega)
  have d10' : ¬ (10 : Int) < (l.length : Int) := by omega
  have HB := Aside0.mk (Below.refl w.heap.size w)
  clear hr0 hr1 hG hgr hK hb0 hsm hlc
  go_enter Tryd.func11, Tryd.ntmps11
  go_wp2_with fail
  refine (HW.out w (HK.out _ HB.out).2.2).mono ?_
  rintro e w1 ⟨rfl, hb1⟩
  have B1 := Aside0.mk hb1
  clear hb1 HW HB
  go_wp2_with fail
  refine (HGR.out w1 B1.out).mono ?_
  rintro e w2 ⟨rfl, hb2⟩
  have B2 := Aside0.mk (B1.out.trans (hb2.below.mono B1.out.size))
  clear hb2 B1 HGR
  go_wp2_with fail
  go_loopw [7, 31] (fun u7 u31 wr => ∃ k : Nat, u31 = .int .i64 (k : Int) ∧ u7 = .int .i64 ((totL (l.take k) : Nat) : Int) ∧ k ≤ l.length ∧ totL (l.take k) ≤ 500 ∧ Aside0 (Below w.heap.size w wr)) (fun _ u31 _ => l.length - (intOf u31).toNat)
  case atStart => exact ⟨0, rfl, rfl, Nat.zero_le _, Nat.zero_le _, B2⟩
  case round =>
    obtain ⟨k, rfl, rfl, hk, ht, hb⟩ := hrel
    by_cases hlt : k < l.length
    · have hlt' : (k : Int) < (l.length : Int) := by omega
      have hge' : (0 : Int) ≤ (k : Int) := by omega
      obtain ⟨ad, A', c', eA, hcell, hle, hC⟩ := at_piece8 (HK.out _ hb.out).1 k hlt
      subst eA
      have hcl := HLC.out (l.getD k []) (by rw [List.getD_eq_getElem?_getD, List.getElem?_eq_getElem hlt]; exact List.getElem_mem hlt)
      clear hC
      have HT := Aside0.mk (totL_take l k hlt)
      generalize l.getD k [] = ci at *
      generalize totL (l.take k) = tk at *
      have hw2 : IntKind.i64.wrap ((k : Int) + 1) = (k : Int) + 1 := by
        unfold IntKind.wrap
        simp [IntKind.bits, IntKind.signed]
        omega
      have hw3 : IntKind.i64.wrap ((tk : Int) + (ci.length : Int)) = (tk : Int) + (ci.length : Int) := by
        unfold IntKind.wrap
        simp [IntKind.bits, IntKind.signed]
        omega
      by_cases h5 : tk + ci.length ≤ 500
      · have h5' : ¬ (500 : Int) < (tk : Int) + (ci.length : Int) := by omega
        go_wp2_with fail
        go_roundw
        case rel => exact ⟨k + 1, by go_num, by rw [HT.out]; go_num, by omega, by rw [HT.out]; exact h5, hb⟩
        case measure => simp [intOf]; omega
      · have h5' : (500 : Int) < (tk : Int) + (ci.length : Int) := by omega
        go_wp2
        go_ret
        exact ⟨rfl, hb.out⟩
    · obtain rfl : k = l.length := by omega
      have ht1 : totL l ≤ 500 := by rwa [List.take_of_length_le (Nat.le_refl _)] at ht
      have B3 := Aside0.mk hb.out
      clear hb B2 hk hlt
      generalize totL (l.take l.length) = tt at *
      go_wp2_with fail
      go_loopw [44] (fun u44 wr => ∃ k : Nat, u44 = .int .i64 (k : Int) ∧ k ≤ fs.length ∧ Aside0 (∀ f ∈ fs.take k, rightB f.f0 f.f1 = true) ∧ Aside0 (Below w.heap.size w wr)) (fun u44 _ => fs.length - (intOf u44).toNat)
      case atStart => exact ⟨0, rfl, Nat.zero_le _, ⟨fun f hf => by simp at hf⟩, B3⟩
      case round =>
        obtain ⟨k, rfl, hk, hR, hb⟩ := hrel
        by_cases hlt : k < fs.length
        · have hlt' : (k : Int) < (fs.length : Int) := by omega
          have hge' : (0 : Int) ≤ (k : Int) := by omega
          obtain ⟨ad, e, hx0, hx1⟩ := at_T53 (HK.out _ hb.out).2.1 (k : Int) (by omega) (by omega)
          cases e
          unfold rd_T53 at hx0 hx1
          rw [Int.toNat_natCast] at hx0 hx1
          have HM := Aside0.mk (mem_getD fs z53 k hlt)
          have HTK := Aside0.mk (take_one fs z53 k hlt)
          obtain ⟨K2, hK2⟩ := HRT.out _ HM.out
          have HC := Aside0.mk (fun W (h : Below w.heap.size w W) => catchpitref05_Right.calls K2 _ _ _ W (HK.out W h).2.2 (hK2 K2 (Nat.le_refl _)))
          clear hK2
          have hw2 : IntKind.i64.wrap ((k : Int) + 1) = (k : Int) + 1 := by
            unfold IntKind.wrap
            simp [IntKind.bits, IntKind.signed]
            omega
          generalize fs.getD k z53 = x at *
          go_wp2_with fail
          refine (HC.out _ (hb.out.alloc hb.out.size _)).mono ?_
          rintro e w4 ⟨rfl, hb4⟩
          have B4 := Aside0.mk ((hb.out.alloc hb.out.size _).trans (hb4.mono (Nat.le_trans hb.out.size (by simp))))
          clear hb4 hx0 hx1 hb
          cases hr : rightB x.f0 x.f1 with
          | true =>
            have HR := Aside0.mk hr
            clear hr
            go_wp2
            go_roundw
            case rel =>
              refine ⟨k + 1, by go_num, by omega, ⟨fun f hf => ?_⟩, B4⟩
              rw [HTK.out] at hf
              rcases List.mem_append.1 hf with hf | hf
              · exact hR.out f hf
              · rw [List.mem_singleton.1 hf]; exact HR.out
            case measure => simp [intOf]; omega
          | false =>
            clear hr
            go_wp2
            go_ret
            exact ⟨rfl, B4.out⟩
        · obtain rfl : k = fs.length := by omega
          have HRA := Aside0.mk (show ∀ f ∈ fs, rightB f.f0 f.f1 = true by have := hR.out; rwa [List.take_of_length_le (Nat.le_refl _)] at this)
          have B4 := Aside0.mk hb.out
          clear hb hR hlt hk HRT B3
          have hGF : ∀ f ∈ fs, GoodF f := fun f hf => ⟨by have := sumF_at fs f hf; omega, by have := sumF_at fs f hf; omega, HRA.out f hf⟩
          have hlc : ∀ c ∈ l, c.length ≤ 500 := fun c hc => Nat.le_trans (totL_mem l c hc) ht1
          have hlen := putP_len [] l fs (fun c hc => by have := hlc c hc; omega) hGF
          have hlnf := linesP_len fs hGF
          have hBP := putB_bytes l ⟨#[]⟩ fs HB0.out
          rw [show bytesOf (⟨#[]⟩ : ByteArray) = [] from rfl] at hBP
          obtain ⟨X, hX, hXd, hXf⟩ := run_putP (e0 := 0) (e1 := fs.length) (e2 := 65536) [] ⟨Nat.le_refl _, .inl rfl⟩ l fs [] (fun c hc => by have := hlc c hc; omega) hGF (Nat.le_refl _) (by omega)
          rw [List.append_nil] at hX
          have hPB : ByteL (putP [] l fs) := by rw [← hBP]; exact bytesOf_byteM _
          have hlp : (putP [] l fs).length ≤ 10000 := by simp only [List.length_nil] at hlen; omega
          have hpos : 0 < (putP [] l fs).length := by unfold putP; simp only [List.length_append, List.length_cons]; omega
          have hk : x % (putP [] l fs).length < (putP [] l fs).length := Nat.mod_lt _ hpos
          have hsp : putP [] l fs = (putP [] l fs).take (x % (putP [] l fs).length) ++ (putP [] l fs).drop (x % (putP [] l fs).length) := (List.take_append_drop _ _).symm
          have hcut := run_cut (E := envM 0 fs.length 65536) (a := (putP [] l fs).take (x % (putP [] l fs).length)) (b := (putP [] l fs).drop (x % (putP [] l fs).length)) (i := 0) (X := minit) (Y := X) (by rw [← hsp]; exact hX.trans (by rw [Nat.zero_add])) (fun e => by have := congrArg List.length e; rw [List.length_drop, List.length_nil] at this; omega)
          have hlt : ((putP [] l fs).take (x % (putP [] l fs).length)).length = x % (putP [] l fs).length := by rw [List.length_take]; omega
          obtain ⟨Z, d, hZ, hZd⟩ := hcut
          rw [hlt, Nat.zero_add] at hZ
          have hBT : ByteL ((putP [] l fs).take (x % (putP [] l fs).length)) := fun y hy => hPB y (List.mem_of_mem_take hy)
          have hs1 := scanF_eq 0 fs.length 65536 ((putP [] l fs).take (x % (putP [] l fs).length)) hBT (by omega) (by omega) (by omega) (by omega)
          have hp1 := payF_eq 0 fs.length 65536 ((putP [] l fs).take (x % (putP [] l fs).length)) hBT (by omega) (by omega) (by omega) (by omega)
          unfold runB at hs1 hp1
          rw [hZ] at hs1 hp1
          rw [toldB_err (by simp)] at hs1
          dsimp only at hs1 hp1
          have hFd : l.flatten = Z.data ++ d := hXd.symm.trans hZd
          have hj := Join_eq l (by omega) (by omega)
          have hfl := flatten_length l
          have hsame := sameB_refl [] [] 0 (Nat.zero_le _) (Nat.zero_le _)
          have hPl : Z.data.length ≤ l.flatten.length := by rw [hFd, List.length_append]; omega
          have hsame2 : catchpitref08_Same.f 1000001 Z.data (l.flatten.take Z.data.length) = some true := by
            rw [Same8_eq _ _ (by omega) _ (by omega), hFd, List.take_left, decide_eq_true rfl]
          have HPU := Aside0.mk (fun W (h : Below w.heap.size w W) => refPut8_calls A0 c0 l ⟨#[]⟩ A1 c1 fs W (HK.out W h).1 (HK.out W h).2.1 (HK.out W h).2.2 (smallPut_of l ⟨#[]⟩ fs (by omega) (by omega) (by decide) hsum))
          rw [hBP] at HPU
          have HS1 := Aside0.mk hs1
          have HP1 := Aside0.mk hp1
          have HJ := Aside0.mk hj
          have HSA := Aside0.mk hsame
          have HSB := Aside0.mk hsame2
          generalize Z.data = P at *
          clear hlen hlnf hBP hX hXd hXf hPB hs1 hp1 hj hsame hsame2 hlc hGF X hsp hlt hZ hZd hBT hFd Z d
          generalize putP [] l fs = S at *
          have hFl : l.flatten.length ≤ 500 := by omega
          clear hfl
          generalize l.flatten = F at *
          generalize hkk : x % S.length = kk at *
          go_wp2_with fail
          refine (HPU.out _ B4.out).mono ?_
          rintro e w5 ⟨v5, rfl, ⟨A5, c5, rfl, hc5, hC5⟩, hb5⟩
          have B5 := Aside0.mk (B4.out.trans (hb5.mono B4.out.size))
          have HS := Aside0.mk (fun W (h : Below w5.heap.size w5 W) => Kd.C_below hC5 h)
          clear hb5 hC5 B4 HPU
          have hcv : IntKind.i64.wrap (x : Int) = (x : Int) := by
            unfold IntKind.wrap
            simp [IntKind.bits, IntKind.signed]
            omega
          have hrm : (x : Int) % (S.length : Int) = (kk : Int) := by
            rw [show ((x : Int) % (S.length : Int)) = ((x % S.length : Nat) : Int) from rfl, hkk]
          go_wp2_with fail
          obtain ⟨w6, hw6⟩ : ∃ w6, w5.alloc (.cells #[.int .i64 0, .int .i64 (fs.length : Int), .int .i64 65536] 23) = w6 := ⟨_, rfl⟩
          have hd6 : w6.heap[w5.heap.size]? = some (.cells #[.int .i64 0, .int .i64 (fs.length : Int), .int .i64 65536] 23 (0, 0)) := by
            rw [← hw6]; exact World.alloc_heap_new w5 _
          have B6 := Aside0.mk (show Below w.heap.size w w6 by rw [← hw6]; exact below_alloc B5.out _)
          have b56 : Below w5.heap.size w5 w6 := by rw [← hw6]; exact below_alloc (Below.refl _ _) _
          rw [hw6, hrm]
          have HS6 := Aside0.mk (fun W (h : Below w6.heap.size w6 W) => HS.out W (b56.trans (h.mono b56.size)))
          have HLC6 := Aside0.mk (fun (W : World) (h : Below w6.heap.size w6 W) => (show W.cell? ⟨w5.heap.size, 0, none⟩ = some (.int .i64 0) ∧ W.cell? ⟨w5.heap.size, 1, none⟩ = some (.int .i64 (fs.length : Int)) ∧ W.cell? ⟨w5.heap.size, 2, none⟩ = some (.int .i64 65536) from
            ⟨(blk_cell ((h.block _ (blk_lt hd6)).trans hd6) 0).trans rfl, (blk_cell ((h.block _ (blk_lt hd6)).trans hd6) 1).trans rfl, (blk_cell ((h.block _ (blk_lt hd6)).trans hd6) 2).trans rfl⟩))
          have HTB := Aside0.mk (fun (W : World) (h : Below w6.heap.size w6 W) => (HK.out W (B6.out.trans (h.mono B6.out.size))).2.2)
          have hgb : w5.heap.size < w6.heap.size := blk_lt hd6
          have hkc : kk ≤ c5 := by omega
          have hSL : S.length ≤ 10000 := hlp
          have HT6 := Aside0.mk (fun W (h : Below w6.heap.size w6 W) => Kd.C_take (HS6.out W h) (Nat.le_of_lt hk))
          have hlk : (S.take kk).length = kk := by rw [List.length_take]; omega
          have HSC := Aside0.mk (fun (W : World) (h : Below w6.heap.size w6 W) => body_Scan.calls A5 c5 (S.take kk) 0 (fs.length : Int) 65536 [] [] 0 (kk : Int) 4 W (HT6.out W h) (by omega) (HTB.out W h) HS1.out)
          have HPC := Aside0.mk (fun (W : World) (h : Below w6.heap.size w6 W) => body_Payload.calls A5 c5 (S.take kk) 0 (fs.length : Int) 65536 P W (HT6.out W h) (by omega) (HTB.out W h) HP1.out)
          rw [hlk] at HSC HPC
          have HJC := Aside0.mk (fun (W : World) (h : Below w6.heap.size w6 W) => catchpitref08_Join.calls 1001 A0 c0 l F W (HK.out W (B6.out.trans (h.mono B6.out.size))).1 HC0.out (HTB.out W h) HJ.out)
          have k0' : (0 : Int) ≤ (kk : Int) := by omega
          have k1' : (kk : Int) ≤ (S.length : Int) := by omega
          have k2' : (kk : Int) ≤ (c5 : Int) := by omega
          obtain ⟨d0, d1, d2⟩ := HLC6.out _ (below_drew (Below.refl _ _))
          have HD := Aside0.mk (below_drew (Below.refl w6.heap.size w6))
          clear hd6 hw6 b56 HS HS6 HT6 HK HJ HS1 HP1 HC0
          obtain ⟨i0, hi0, _, hsz0, _⟩ := info_parts info5
          have hcut := cut_to (P := Tryd.prog) 24 5 .i64 Tryd.underlying24 hi0 A5 S.length c5 (kk : Int) k0' k1' hc5
          have HA6 := Aside0.mk (fun W W' (h : Below w6.heap.size w6 W) (h2 : Below W.heap.size W W') => h.trans (h2.mono h.size))
          generalize S.length = n5 at *
          generalize w5.heap.size = gL at *
          have hn6 : ¬ gL = w6.heap.size := by omega
          have hn6' : ¬ w6.heap.size = gL := by omega
          have HAL := Aside0.mk (below_drew (below_alloc (Below.refl w6.heap.size w6) (.cells #[.slice none 0 0, .slice none 0 0, .int .i64 0] 57)))
          have HBK := Aside0.mk (fun W' (h : Below (w6.alloc (.cells #[.slice none 0 0, .slice none 0 0, .int .i64 0] 57)).drew.heap.size (w6.alloc (.cells #[.slice none 0 0, .slice none 0 0, .int .i64 0] 57)).drew W') => (h.block _ (blk_lt (blk_drew (World.alloc_heap_new w6 (.cells #[.slice none 0 0, .slice none 0 0, .int .i64 0] 57))))).trans (blk_drew (World.alloc_heap_new w6 (.cells #[.slice none 0 0, .slice none 0 0, .int .i64 0] 57))))
          go_region_held3 (fun W => W.cell? ⟨gL, 0, none⟩ = some (.int .i64 0) ∧ W.cell? ⟨gL, 1, none⟩ = some (.int .i64 (fs.length : Int)) ∧ W.cell? ⟨gL, 2, none⟩ = some (.int .i64 65536)) (first | with_reducible exact ⟨d0, d1, d2⟩ | with_reducible exact ⟨x0, x1, x2⟩ | with_reducible exact HLC6.out _ (below_alloc HB7.out _) | with_reducible exact HLC6.out _ HAL.out | exact HLC6.out _ (Below.setCell (p := ⟨w6.heap.size, 2, none⟩) (Below.setCell (p := ⟨w6.heap.size, 1, none⟩) (Below.setCell (p := ⟨w6.heap.size, 0, none⟩) HB7.out (Nat.le_refl _) _) (Nat.le_refl _) _) (Nat.le_refl _) _) | assumption | (simp [*]; done))
            (first
              | (go_at_call 31; refine (HSC.out _ HD.out).mono ?_; rintro e w7 ⟨v7, v8, rfl, hv7, hv8, hb7⟩; obtain ⟨y7, z7, rfl⟩ := Kd.R_slice hv7; obtain ⟨y8, z8, rfl⟩ := Kd.R_slice hv8; clear hv7 hv8; have HB7 := Aside0.mk (HA6.out _ _ HD.out hb7); obtain ⟨x0, x1, x2⟩ := HLC6.out _ HB7.out; have hsz7 := HB7.out.size; have hn7 : ¬ gL = w7.heap.size := (by omega); have hn7' : ¬ w7.heap.size = gL := (by omega); clear hb7 hsz7)
              | (go_at_call 31; refine (HSC.out _ HAL.out).mono ?_; rintro e w7 ⟨v7, v8, rfl, hv7, hv8, hb7⟩; obtain ⟨y7, z7, rfl⟩ := Kd.R_slice hv7; obtain ⟨y8, z8, rfl⟩ := Kd.R_slice hv8; clear hv7 hv8; have HB7 := Aside0.mk (HA6.out _ _ HAL.out hb7); obtain ⟨x0, x1, x2⟩ := HLC6.out _ HB7.out; have hbk := HBK.out _ hb7; have p0 : w7.cell? ⟨w6.heap.size, 0, none⟩ = some (.slice none 0 0) := (blk_cell hbk 0).trans rfl; have p1 : w7.cell? ⟨w6.heap.size, 1, none⟩ = some (.slice none 0 0) := (blk_cell hbk 1).trans rfl; have p2 : w7.cell? ⟨w6.heap.size, 2, none⟩ = some (.int .i64 0) := (blk_cell hbk 2).trans rfl; have fz0 := blk_frozen hbk 0; have fz1 := blk_frozen hbk 1; have fz2 := blk_frozen hbk 2; have HBK7 := Aside0.mk hbk; clear hb7 hbk))
          rotate_left
          · obtain ⟨W1, hW1⟩ : ∃ W1, (((w7.setCell ⟨w6.heap.size, 0, none⟩ (.slice y7 0 z7)).setCell ⟨w6.heap.size, 1, none⟩ (.slice y8 0 z8)).setCell ⟨w6.heap.size, 2, none⟩ (.int .i64 0)) = W1 := ⟨_, rfl⟩
            have B1 := Aside0.mk (show Below w6.heap.size w6 W1 by rw [← hW1]; exact Below.setCell (p := ⟨w6.heap.size, 2, none⟩) (Below.setCell (p := ⟨w6.heap.size, 1, none⟩) (Below.setCell (p := ⟨w6.heap.size, 0, none⟩) HB7.out (Nat.le_refl _) _) (Nat.le_refl _) _) (Nat.le_refl _) _)
            have hg1 : W1.heap[w6.heap.size]? = some (.cells #[.slice y7 0 z7, .slice y8 0 z8, .int .i64 0] 57 (0, 0)) := by
              rw [← hW1]
              exact blk_put (cs := #[.slice y7 0 z7, .slice y8 0 z8, .int .i64 0]) (blk_put (cs := #[.slice y7 0 z7, .slice none 0 0, .int .i64 0]) (blk_put (cs := #[.slice none 0 0, .slice none 0 0, .int .i64 0]) HBK7.out 0 _ rfl) 1 _ rfl) 2 _ rfl
            rw [hW1]
            clear hW1 p0 p1 p2 fz0 fz1 fz2 HBK7 x0 x1 x2
            have HLC1 := Aside0.mk (HLC6.out _ (below_drew B1.out))
            obtain ⟨d0, d1, d2⟩ := HLC1.out
            have HD1 := Aside0.mk (below_drew B1.out)
            have HD2 := Aside0.mk (below_drew (Below.refl W1.heap.size W1))
            clear d0 d1 d2
            obtain ⟨d0, d1, d2⟩ := HLC1.out
            have HBB := Aside0.mk (fun (W : World) (h : Below W1.heap.size W1 W) => (show W.cell? ⟨w6.heap.size, 0, none⟩ = some (.slice y7 0 z7) ∧ W.cell? ⟨w6.heap.size, 1, none⟩ = some (.slice y8 0 z8) ∧ W.cell? ⟨w6.heap.size, 2, none⟩ = some (.int .i64 0) from
              ⟨(blk_cell ((h.block _ (blk_lt hg1)).trans hg1) 0).trans rfl, (blk_cell ((h.block _ (blk_lt hg1)).trans hg1) 1).trans rfl, (blk_cell ((h.block _ (blk_lt hg1)).trans hg1) 2).trans rfl⟩))
            have HA1 := Aside0.mk (fun W W' (h : Below W1.heap.size W1 W) (h2 : Below W.heap.size W W') => h.trans (h2.mono h.size))
            clear hg1
            go_wp2_with fail
            go_region_held3 (fun W => W.cell? ⟨gL, 0, none⟩ = some (.int .i64 0) ∧ W.cell? ⟨gL, 1, none⟩ = some (.int .i64 (fs.length : Int)) ∧ W.cell? ⟨gL, 2, none⟩ = some (.int .i64 65536)) (first | with_reducible exact ⟨d0, d1, d2⟩ | with_reducible exact ⟨x0, x1, x2⟩ | assumption)
              (first
                | (go_at_call 35; refine (HPC.out _ HD1.out).mono ?_; rintro e w8 ⟨v9, rfl, hv9, hb8⟩; obtain ⟨A9, c9, rfl, hc9, hC9⟩ := Kd.R_reads hv9; have HB8 := Aside0.mk (HA6.out _ _ HD1.out hb8); have HE8 := Aside0.mk (HA1.out _ _ HD2.out hb8); have HC9 := Aside0.mk (fun W' (h : Below w8.heap.size w8 W') => Kd.C_below hC9 h); obtain ⟨x0, x1, x2⟩ := HLC6.out _ HB8.out; clear hv9 hb8 hC9)
                | (go_at_call 33; refine (HJC.out _ HB8.out).mono ?_; rintro e w9 ⟨v10, rfl, hv10, hb9⟩; obtain ⟨A10, c10, rfl, hc10, hC10⟩ := Kd.R_reads hv10; have HB9 := Aside0.mk (HA6.out _ _ HB8.out hb9); have HE9 := Aside0.mk (HA1.out _ _ HE8.out hb9); have HC99 := Aside0.mk (HC9.out _ hb9); have HC10 := Aside0.mk hC10; obtain ⟨x0, x1, x2⟩ := HLC6.out _ HB9.out; clear hv10 hb9 hC10))
            have HSM := Aside0.mk (fun (W : World) (h : Below w6.heap.size w6 W) => catchpitlaw08_same.calls 1000001 y7 z7 [] y8 z8 [] 0 none 0 [] none 0 [] 0 true W (C_none8 _ _ _) (Nat.zero_le _) (C_none8 _ _ _) (Nat.zero_le _) (C_none8 _ _ _) (Nat.zero_le _) (C_none8 _ _ _) (Nat.zero_le _) (HTB.out W h) HSA.out)
            have hlF : (F.take P.length).length = P.length := by rw [List.length_take]; omega
            have HSS := Aside0.mk (fun (W : World) (h9 : Below w9.heap.size w9 W) (h : Below w6.heap.size w6 W) => catchpitref08_Same.calls 1000001 A9 c9 P A10 c10 (F.take P.length) true W (Kd.C_below HC99.out h9) hc9 (Kd.C_take (Kd.C_below HC10.out h9) hPl) (by rw [hlF]; omega) (HTB.out W h) HSB.out)
            rw [hlF] at HSS
            have p0' : (0 : Int) ≤ (P.length : Int) := by omega
            have p1' : (P.length : Int) ≤ (F.length : Int) := by omega
            have hcut2 := cut_to (P := Tryd.prog) 24 5 .i64 Tryd.underlying24 hi0 A10 F.length c10 (P.length : Int) p0' p1' hc10
            clear x0 x1 x2 d0 d1 d2
            obtain ⟨d0, d1, d2⟩ := HBB.out _ HE9.out
            go_wp2_with fail
            refine (HSM.out _ HB9.out).mono ?_
            rintro e w10 ⟨rfl, hb10⟩
            have HB10 := Aside0.mk (HA6.out _ _ HB9.out hb10)
            have HE10 := Aside0.mk hb10
            clear hb10 d0 d1 d2
            go_wp2_with fail
            refine (HSS.out _ HE10.out HB10.out).mono ?_
            rintro e w11 ⟨rfl, hb11⟩
            have HB11 := Aside0.mk (HA6.out _ _ HB10.out hb11.below)
            clear hb11
            go_wp2
            go_ret
            exact ⟨rfl, B6.out.trans (HB11.out.mono B6.out.size)⟩
          · obtain ⟨W1, hW1⟩ : ∃ W1, w7.alloc (.cells #[.slice y7 0 z7, .slice y8 0 z8, .int .i64 0] 57) = W1 := ⟨_, rfl⟩
            have B1 := Aside0.mk (show Below w6.heap.size w6 W1 by rw [← hW1]; exact below_alloc HB7.out _)
            have hg1 : W1.heap[w7.heap.size]? = some (.cells #[.slice y7 0 z7, .slice y8 0 z8, .int .i64 0] 57 (0, 0)) := by
              rw [← hW1]; exact World.alloc_heap_new w7 _
            rw [hW1]
            clear hW1 hn7 hn7' x0 x1 x2
            have HLC1 := Aside0.mk (HLC6.out _ (below_drew B1.out))
            obtain ⟨d0, d1, d2⟩ := HLC1.out
            have HD1 := Aside0.mk (below_drew B1.out)
            have HD2 := Aside0.mk (below_drew (Below.refl W1.heap.size W1))
            clear d0 d1 d2
            obtain ⟨d0, d1, d2⟩ := HLC1.out
            have HBB := Aside0.mk (fun (W : World) (h : Below W1.heap.size W1 W) => (show W.cell? ⟨w7.heap.size, 0, none⟩ = some (.slice y7 0 z7) ∧ W.cell? ⟨w7.heap.size, 1, none⟩ = some (.slice y8 0 z8) ∧ W.cell? ⟨w7.heap.size, 2, none⟩ = some (.int .i64 0) from
              ⟨(blk_cell ((h.block _ (blk_lt hg1)).trans hg1) 0).trans rfl, (blk_cell ((h.block _ (blk_lt hg1)).trans hg1) 1).trans rfl, (blk_cell ((h.block _ (blk_lt hg1)).trans hg1) 2).trans rfl⟩))
            have HA1 := Aside0.mk (fun W W' (h : Below W1.heap.size W1 W) (h2 : Below W.heap.size W W') => h.trans (h2.mono h.size))
            clear hg1
            go_wp2_with fail
            go_region_held3 (fun W => W.cell? ⟨gL, 0, none⟩ = some (.int .i64 0) ∧ W.cell? ⟨gL, 1, none⟩ = some (.int .i64 (fs.length : Int)) ∧ W.cell? ⟨gL, 2, none⟩ = some (.int .i64 65536)) (first | with_reducible exact ⟨d0, d1, d2⟩ | with_reducible exact ⟨x0, x1, x2⟩ | assumption)
              (first
                | (go_at_call 35; refine (HPC.out _ HD1.out).mono ?_; rintro e w8 ⟨v9, rfl, hv9, hb8⟩; obtain ⟨A9, c9, rfl, hc9, hC9⟩ := Kd.R_reads hv9; have HB8 := Aside0.mk (HA6.out _ _ HD1.out hb8); have HE8 := Aside0.mk (HA1.out _ _ HD2.out hb8); have HC9 := Aside0.mk (fun W' (h : Below w8.heap.size w8 W') => Kd.C_below hC9 h); obtain ⟨x0, x1, x2⟩ := HLC6.out _ HB8.out; clear hv9 hb8 hC9)
                | (go_at_call 33; refine (HJC.out _ HB8.out).mono ?_; rintro e w9 ⟨v10, rfl, hv10, hb9⟩; obtain ⟨A10, c10, rfl, hc10, hC10⟩ := Kd.R_reads hv10; have HB9 := Aside0.mk (HA6.out _ _ HB8.out hb9); have HE9 := Aside0.mk (HA1.out _ _ HE8.out hb9); have HC99 := Aside0.mk (HC9.out _ hb9); have HC10 := Aside0.mk hC10; obtain ⟨x0, x1, x2⟩ := HLC6.out _ HB9.out; clear hv10 hb9 hC10))
            have HSM := Aside0.mk (fun (W : World) (h : Below w6.heap.size w6 W) => catchpitlaw08_same.calls 1000001 y7 z7 [] y8 z8 [] 0 none 0 [] none 0 [] 0 true W (C_none8 _ _ _) (Nat.zero_le _) (C_none8 _ _ _) (Nat.zero_le _) (C_none8 _ _ _) (Nat.zero_le _) (C_none8 _ _ _) (Nat.zero_le _) (HTB.out W h) HSA.out)
            have hlF : (F.take P.length).length = P.length := by rw [List.length_take]; omega
            have HSS := Aside0.mk (fun (W : World) (h9 : Below w9.heap.size w9 W) (h : Below w6.heap.size w6 W) => catchpitref08_Same.calls 1000001 A9 c9 P A10 c10 (F.take P.length) true W (Kd.C_below HC99.out h9) hc9 (Kd.C_take (Kd.C_below HC10.out h9) hPl) (by rw [hlF]; omega) (HTB.out W h) HSB.out)
            rw [hlF] at HSS
            have p0' : (0 : Int) ≤ (P.length : Int) := by omega
            have p1' : (P.length : Int) ≤ (F.length : Int) := by omega
            have hcut2 := cut_to (P := Tryd.prog) 24 5 .i64 Tryd.underlying24 hi0 A10 F.length c10 (P.length : Int) p0' p1' hc10
            clear x0 x1 x2 d0 d1 d2
            obtain ⟨d0, d1, d2⟩ := HBB.out _ HE9.out
            go_wp2_with fail
            refine (HSM.out _ HB9.out).mono ?_
            rintro e w10 ⟨rfl, hb10⟩
            have HB10 := Aside0.mk (HA6.out _ _ HB9.out hb10)
            have HE10 := Aside0.mk hb10
            clear hb10 d0 d1 d2
            go_wp2_with fail
            refine (HSS.out _ HE10.out HB10.out).mono ?_
            rintro e w11 ⟨rfl, hb11⟩
            have HB11 := Aside0.mk (HA6.out _ _ HB10.out hb11.below)
            clear hb11
            go_wp2
            go_ret
            exact ⟨rfl, B6.out.trans (HB11.out.mono B6.out.size)⟩
set_option maxHeartbeats 4000000 in
set_option maxRecDepth 100000 in
theorem cuts_out (A0 : Option Addr) (c0 : Nat) (l : List (List Int)) (A1 : Option Addr) (c1 : Nat) (fs : List Fld) (x : Int) (w : World) (hr0 : Kd.C KB8 w A0 l.length l) (hr1 : Kd.C k53 w A1 fs.length fs) (hc1 : fs.length ≤ c1) (hG : TabOk w) (hsm : Small1 fs) (hn : fs.length ≤ 140737488351232) (ho : 2000 < sumF fs ∨ 10 < l.length) :
    Calls Tryd.prog 11 #[.slice A0 l.length c0, .slice A1 fs.length c1, .int .u16 x] w fun e w' => e = .returned (.bool true) ∧ Below w.heap.size w w' := by
  obtain ⟨K, hK⟩ := ref05_Great fs hsm hn
  have hgr := hK K (Nat.le_refl _)
  have hm0 : l.length ≤ 9223372036854775807 := hr0.2.1
  have HW := Aside0.mk (fun W hg => catchpitlaw08_wakes.calls true W hg rfl)
  have HG := Aside0.mk (fun (W : World) (h : Below w.heap.size w W) => hG.below h)
  by_cases hs : 2000 < sumF fs
  · rw [decide_eq_true hs] at hgr
    have HGR := Aside0.mk (fun (W : World) (h : Below w.heap.size w W) => catchpitref05_Great.calls K A1 c1 fs true W (Kd.C_below hr1 h) hc1 (hG.below h) hgr)
    clear hr0 hr1 hG hgr hK ho
    go_enter Tryd.func11, Tryd.ntmps11
    go_wp2_with fail
    refine (HW.out w (HG.out _ (Below.refl _ _))).mono ?_
    rintro e w1 ⟨rfl, hb1⟩
    have B1 := Aside0.mk hb1
    clear hb1
    go_wp2_with fail
    refine (HGR.out w1 B1.out).mono ?_
    rintro e w2 ⟨rfl, hb2⟩
    have B2 := Aside0.mk (B1.out.trans (hb2.below.mono B1.out.size))
    clear hb2
    go_wp2
    go_ret
    exact ⟨rfl, B2.out⟩
  · rw [decide_eq_false hs] at hgr
    have HGR := Aside0.mk (fun (W : World) (h : Below w.heap.size w W) => catchpitref05_Great.calls K A1 c1 fs false W (Kd.C_below hr1 h) hc1 (hG.below h) hgr)
    clear hr0 hr1 hG hgr hK
    have h1 : 10 < l.length := ho.elim (fun h => absurd h hs) id
    have h10 : (10 : Int) < (l.length : Int) := by omega
    have d10 : decide ((10 : Int) < (l.length : Int)) = true := decide_eq_true h10
    clear ho
    go_enter Tryd.func11, Tryd.ntmps11
    go_wp2_with fail
    refine (HW.out w (HG.out _ (Below.refl _ _))).mono ?_
    rintro e w1 ⟨rfl, hb1⟩
    have B1 := Aside0.mk hb1
    clear hb1
    go_wp2_with fail
    refine (HGR.out w1 B1.out).mono ?_
    rintro e w2 ⟨rfl, hb2⟩
    have B2 := Aside0.mk (B1.out.trans (hb2.below.mono B1.out.size))
    clear hb2
    go_wp2
    go_ret
    exact ⟨rfl, B2.out⟩
def catchpitlaw08_BodyCuts.f (l : List (List Int)) (fs : List Fld) (x : Int) : Option Bool := if wfPutB l fs = true ∧ 0 ≤ x ∧ x ≤ 65535 then some true else none
theorem catchpitlaw08_BodyCuts.calls (A0 : Option Addr) (c0 : Nat) (l0 : List (List Int)) (A1 : Option Addr) (c1 : Nat) (l1 : List S53) (a2 : Int) (r : Bool) (w : World) (hr0 : Kd.C (Kd.slice 5 (Kd.int .u8)) w A0 l0.length l0) (hc0 : l0.length ≤ c0) (hr1 : Kd.C k53 w A1 l1.length l1) (hc1 : l1.length ≤ c1) (hG : TabOk w) (h : catchpitlaw08_BodyCuts.f l0 l1 a2 = some r) :
    Calls Tryd.prog 11 #[.slice A0 l0.length c0, .slice A1 l1.length c1, .int .u16 a2] w fun e w' => e = .returned (.bool r) ∧ Below w.heap.size w w' := by
  unfold catchpitlaw08_BodyCuts.f at h
  split at h
  · rename_i hh
    cases h
    obtain ⟨hw, h4, h5⟩ := hh
    obtain ⟨h1, h2, h3⟩ := wfPut_iff.1 hw
    by_cases ho : 2000 < sumF l1 ∨ 10 < l0.length
    · exact cuts_out A0 c0 l0 A1 c1 l1 a2 w hr0 hr1 hc1 hG h2 h3 ho
    · obtain ⟨x, rfl⟩ := Int.eq_ofNat_of_zero_le h4
      exact cuts_go A0 c0 l0 A1 c1 l1 x w hr0 hc0 hr1 hc1 hG (fun c hc => (h1 c hc).1) (fun c hc => (h1 c hc).2) h2 h3 (by omega) (by omega) (by omega)
  · cases h
end Go.Proofs.YtmmbpbgcobmifaaDoor.Pc
end
section
namespace Go.Proofs.YtmmbpbgcobmifaaDoor.Pr
end Go.Proofs.YtmmbpbgcobmifaaDoor.Pr
namespace Go.Proofs.YtmmbpbgcobmifaaDoor.Py
end Go.Proofs.YtmmbpbgcobmifaaDoor.Py
namespace Go.Proofs.YtmmbpbgcobmifaaDoor.Pc
end Go.Proofs.YtmmbpbgcobmifaaDoor.Pc
namespace Go.Proofs.YtmmbpbgcobmifaaDoor.Pure
open Go.RowKit Go.Proofs.YtmmbpbgcobmifaaDoorH Go.Proofs.YtmmbpbgcobmifaaDoor.Pr Go.Proofs.YtmmbpbgcobmifaaDoor.Py Go.Proofs.YtmmbpbgcobmifaaDoor.Pc Go.Proofs.YtmmbpbgcobmifaaDoorW.PrintWords Go.Proofs.YtmmbpbgcobmifaaDoorW.PrintLast
theorem wf_u8C {x : Int} (h : (Lit.int .u8 x).wf = true) : 0 ≤ x ∧ x ≤ 255 := by
  have m2 : IntKind.u8.max = 255 := rfl
  have m1 : IntKind.u8.min = 0 := rfl
  simp [Lit.wf, m1, m2] at h
  omega
theorem wf_bytesC {l : List Int} (h : ∀ y ∈ l, (Lit.int .u8 y).wf = true) : ByteL l := fun x hx => wf_u8C (h x hx)
theorem wf_u16C {x : Int} (h : (Lit.int .u16 x).wf = true) : 0 ≤ x ∧ x ≤ 65535 := by
  have m2 : IntKind.u16.max = 65535 := rfl
  have m1 : IntKind.u16.min = 0 := rfl
  simp [Lit.wf, m1, m2] at h
  omega
theorem BodyCuts (l : List (List Int)) (fs : List S53) (x : Int) (hl : l.length * 24 ≤ 140737488351232 ∧ ∀ y ∈ l, (y.length * 1 ≤ 140737488351232 ∧ ∀ z ∈ y, (Lit.int .u8 z).wf = true)) (hf : fs.length * 32 ≤ 140737488351232 ∧ ∀ y ∈ fs, (y.f0.size ≤ 140737488351232 ∧ y.f1.size ≤ 140737488351232)) (hx : (Lit.int .u16 x).wf = true) :
    catchpitlaw08_BodyCuts.f l fs x = some true := if_pos ⟨wfPut_iff.2 ⟨fun c hc => ⟨wf_bytesC (hl.2 c hc).2, by have := (hl.2 c hc).1; omega⟩, hf.2, by omega⟩, wf_u16C hx⟩
end Go.Proofs.YtmmbpbgcobmifaaDoor.Pure
end
section
namespace Go.Proofs.YtmmbpbgcobmifaaDoorH
open Go.RowKit Go.ChangeShapes Go.WideShapes Go.ChangeAt
theorem two_of {α : Type} {l : List α} (h : l.length = 2) : ∃ a b, l = [a, b] := by
  match l, h with
  | [a, b], _ => exact ⟨a, b, rfl⟩
theorem three_of {α : Type} {l : List α} (h : l.length = 3) : ∃ a b c, l = [a, b, c] := by
  match l, h with
  | [a, b, c], _ => exact ⟨a, b, c, rfl⟩
theorem six_of {α : Type} {l : List α} (h : l.length = 6) : ∃ a b c d e f, l = [a, b, c, d, e, f] := by
  match l, h with
  | [a, b, c, d, e, f], _ => exact ⟨a, b, c, d, e, f, rfl⟩
theorem cells_of_one {W : World} {cs : List Value} {y : DataW Unit × List MemPlace} {m : Nat} {x0 : Int}
    (hd : DataW.trod (fun _ => ()) Tryd.prog W 0 (fun _ => true) false m 5 cs = some y) (hy : y.1 = .lit (.int .u8 x0)) : cs = [.int .u8 x0] := by
  obtain ⟨n, e1, e2, _⟩ := DataW.trod_int Tryd.underlying5 hd
  rw [e2] at hy
  simp only [DataW.lit.injEq, Lit.int.injEq, true_and] at hy
  rw [e1, hy]
theorem cells_of_pair {W : World} {cs : List Value} {y : DataW Unit × List MemPlace} {m : Nat} {x0 x1 : Int}
    (hd : DataW.trod (fun _ => ()) Tryd.prog W 0 (fun _ => true) false m 109 cs = some y) (hy : y.1 = .agg [.lit (.int .u8 x0), .lit (.int .u8 x1)]) :
    cs = [.int .u8 x0, .int .u8 x1] := by
  have c5 : Tryd.prog.cellsOf 5 = 1 := by kernel_rfl
  have c2 : Tryd.prog.cellsOf 109 = 2 := by kernel_rfl
  obtain ⟨xs, m, _, ex, hn, hl, hel⟩ := DataW.trod_array Tryd.underlying109 hd
  rw [c2] at hn
  obtain ⟨a, b, rfl⟩ := two_of hn
  obtain ⟨u, v, rfl⟩ := two_of hl
  · rw [ex] at hy
    simp only [List.map_cons, List.map_nil, DataW.agg.injEq, List.cons.injEq, and_true] at hy
    have h0 := hel 0 (by omega)
    have h1 := hel 1 (by omega)
    simp only [c5] at h0 h1
    have e0 := cells_of_one (y := u) (by simpa using h0) hy.1
    have e1 := cells_of_one (y := v) (by simpa using h1) hy.2
    simp at e0 e1
    rw [e0, e1]
theorem cells_of_pairs {W : World} {cs : List Value} {y : DataW Unit × List MemPlace} {m : Nat} {x0 x1 x2 x3 x4 x5 : Int}
    (hd : DataW.trod (fun _ => ()) Tryd.prog W 0 (fun _ => true) false m 110 cs = some y)
    (hy : y.1 = .agg [.agg [.lit (.int .u8 x0), .lit (.int .u8 x1)], .agg [.lit (.int .u8 x2), .lit (.int .u8 x3)], .agg [.lit (.int .u8 x4), .lit (.int .u8 x5)]]) :
    cs = [.int .u8 x0, .int .u8 x1, .int .u8 x2, .int .u8 x3, .int .u8 x4, .int .u8 x5] := by
  have c2 : Tryd.prog.cellsOf 109 = 2 := by kernel_rfl
  have c6 : Tryd.prog.cellsOf 110 = 6 := by kernel_rfl
  obtain ⟨xs, m, _, ex, hn, hl, hel⟩ := DataW.trod_array Tryd.underlying110 hd
  rw [c6] at hn
  obtain ⟨a, b, c, d, e, f, rfl⟩ := six_of hn
  obtain ⟨u, v, z, rfl⟩ := three_of hl
  · rw [ex] at hy
    simp only [List.map_cons, List.map_nil, DataW.agg.injEq, List.cons.injEq, and_true] at hy
    have h0 := hel 0 (by omega)
    have h1 := hel 1 (by omega)
    have h2 := hel 2 (by omega)
    simp only [c2] at h0 h1 h2
    have e0 := cells_of_pair (y := u) (by simpa using h0) hy.1
    have e1 := cells_of_pair (y := v) (by simpa using h1) hy.2.1
    have e2 := cells_of_pair (y := z) (by simpa using h2) hy.2.2
    simp at e0 e1 e2
    rw [e0.1, e0.2, e1.1, e1.2, e2.1, e2.2]
theorem tabOk_of_laid {W : World} {L : List (String × DataW Unit)} (h : laidMetH Tryd.prog L W) (hp : (L.all fun x => x.2.handleName?.isNone) = true)
    (hf : L.filter (fun x => x.1 == "catchpit/octet.ends") = [("catchpit/octet.ends", Go.Proofs.YtmmbpbgcobmifaaDoor.Rows.laid_catchpit_octet_ends)]) (hs : W.ShapedOpen Tryd.prog) : TabOk W := by
  rw [MakeChecks.laidMetH_plain _ _ _ hp] at h
  have h2 := laidMet.filter (fun x => x.1 == "catchpit/octet.ends") h
  rw [hf] at h2
  obtain ⟨ps, ⟨g, t, cs, fuel, p, q, hg, ht, hv, hd, _, _⟩, _, _⟩ := h2
  obtain rfl := Option.some.inj ((show Tryd.prog.globalNamed "catchpit/octet.ends" = some 0 by kernel_rfl).symm.trans hg)
  obtain rfl := Option.some.inj ((show (Tryd.prog.globals[0]?).map (·.type) = some 110 by kernel_rfl).symm.trans ht)
  have e := cells_of_pairs hd rfl
  have hc := World.var?_cell hg hv
  have at_ : ∀ j, cs[j]? = cs.toList[j]? := fun j => (Array.getElem?_toList ..).symm
  rw [e] at at_
  exact ⟨(hc 0).trans (at_ 0), (hc 1).trans (at_ 1), (hc 2).trans (at_ 2), (hc 3).trans (at_ 3), (hc 4).trans (at_ 4), (hc 5).trans (at_ 5), MxOk.of_shaped hs⟩
end Go.Proofs.YtmmbpbgcobmifaaDoorH
end
section
namespace Go.Proofs.YtmmbpbgcobmifaaDoorH
open Go
variable {H : Type} {enc : TypeId × Value → H}
theorem returns_and_shaped {a : Assume} {C : Checked} {os : Os} {f : FuncId} {fn : Func} {s : ChangeSpec} {conds : List PathCond} {apart fresh handsOn again : Bool} {X : World → Array Value → Prop}
    (hX : ∀ (w w' : World) (args : Array Value), w.heap = w'.heap → X w args → X w' args)
    (own : ownKnob C.prog.godebug = none) (started : os.Started) (noInit : C.prog.inits.idxOf? f = none) (hfn : C.prog.funcs[f]? = some fn)
    (witness : ∃ (w : World) (tape : Tape) (i : Input), w.os = os ∧ (w.forCall tape i).Shaped C.prog ∧ i.vars = [] ∧ Input.okWide C.prog (w.forCall tape i) .any w.heap.size f i ∧
      ((s.pre enc C.prog fn conds apart (w.forCall tape i).memory i.args ∧ X (w.forCall tape i).memory i.args) ∧ sizedMet enc C.prog fn (OpenSpec.ofChange s) apart (w.forCall tape i).memory i.args) ∧ a.holds C.prog (lone (Frame.enter C.prog f i.args .normal) [] (w.forCall tape i)))
    (contract : ∀ (W : World) (base : Nat) (args : Array Value) (ds gs : List (DataW H)) (before : List MemPlace),
      (∀ (j : Nat) t v, fn.params[j]? = some t → args[j]? = some v → Value.okWide C.prog W .any base t v) →
      DataW.Whole enc C.prog fn.params.toList s.vars apart W args.toList ds gs before →
      conds.all (PathCond.test C.prog ⟨fn.params.toList, ds, s.plain.varTypes C.prog, gs⟩) = true →
      (DataW.weightsEach C.prog (fn.params.toList ++ s.plain.varTypes C.prog) (ds ++ gs)).all (· ≤ reachBytes) = true → X W args →
      W.ShapedOpen C.prog →
      a.holds C.prog (lone (Frame.enter C.prog f args .normal) [] W) →
      Calls C.prog f args W fun e W' => ∃ v, e = .returned v ∧ s.post enc C.prog fn apart fresh handsOn again W args v W') :
    ReturnsInHanded a C os f .any (fun w args => (s.pre enc C.prog fn conds apart w args ∧ X w args) ∧ sizedMet enc C.prog fn (OpenSpec.ofChange s) apart w args) (s.post enc C.prog fn apart fresh handsOn again) := by
  refine returnsInHanded_of_calls own started noInit witness ?_
  intro w tape i _ hsh _ hok hpre hholds
  obtain ⟨_, _, _, fn', hfn', _, _, _, _, hval⟩ := hok
  have e : fn' = fn := Option.some.inj (hfn'.symm.trans hfn)
  subst e
  obtain ⟨⟨⟨ds, gs, before, hw, hc⟩, hx⟩, hz⟩ := hpre
  have hw' := DataW.Whole.of_heap (w' := w.forCall tape i) (by rfl) hw
  refine (contract (w.forCall tape i) w.heap.size i.args ds gs before hval hw' hc (hz.weights hw) (hX _ _ _ (by rfl) hx) hsh hholds).mono fun e W' ⟨v, he, hp⟩ => ?_
  subst he
  exact ChangeSpec.post_blind hp
end Go.Proofs.YtmmbpbgcobmifaaDoorH
end
