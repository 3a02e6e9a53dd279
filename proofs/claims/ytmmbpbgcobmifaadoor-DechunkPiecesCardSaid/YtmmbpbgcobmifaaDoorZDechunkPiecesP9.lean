import Derived.Test.YtmmbpbgcobmifaaDoorZDechunkPiecesP8
import Derived.Test.YtmmbpbgcobmifaaDoorZDechunkPiecesP5
namespace Go.Proofs.YtmmbpbgcobmifaaDoorH
end Go.Proofs.YtmmbpbgcobmifaaDoorH
namespace Go.Proofs.YtmmbpbgcobmifaaDoor.Pr
end Go.Proofs.YtmmbpbgcobmifaaDoor.Pr
namespace Go.Proofs.YtmmbpbgcobmifaaDoorW.PrintWords
end Go.Proofs.YtmmbpbgcobmifaaDoorW.PrintWords
namespace Go.Proofs.YtmmbpbgcobmifaaDoorW.PrintLast
end Go.Proofs.YtmmbpbgcobmifaaDoorW.PrintLast
namespace Go.Proofs.YtmmbpbgcobmifaaDoorW.PrintMore
end Go.Proofs.YtmmbpbgcobmifaaDoorW.PrintMore
namespace Go.Proofs.YtmmbpbgcobmifaaDoorM
end Go.Proofs.YtmmbpbgcobmifaaDoorM
section
namespace Go.Proofs.YtmmbpbgcobmifaaDoor.Pr
end Go.Proofs.YtmmbpbgcobmifaaDoor.Pr
namespace Go.Proofs.YtmmbpbgcobmifaaDoor.Pz
set_option linter.unusedVariables false
set_option linter.unusedSimpArgs false
open Go Go.RowKit Go.Proofs.YtmmbpbgcobmifaaDoorH Go.Proofs.YtmmbpbgcobmifaaDoor.Pr Go.Proofs.YtmmbpbgcobmifaaDoorW.PrintWords Go.Proofs.YtmmbpbgcobmifaaDoorW.PrintLast Go.Proofs.YtmmbpbgcobmifaaDoorW.PrintMore Go.Proofs.YtmmbpbgcobmifaaDoorM
theorem row_emptyD {W : World} {base b : Nat} (h : W.heap[b]? = some (.cells #[] 5 (0, 0))) (hb : base ≤ b) : RowD W base (.slice (some ⟨b, 0, none⟩) 0 0) [] :=
  ⟨rfl, .inr ⟨b, 0, #[], rfl, hb, h, Nat.le_refl _, Nat.zero_le _, rfl, rfl⟩⟩
set_option maxHeartbeats 2000000 in
set_option maxRecDepth 100000 in
theorem pieces_off (A0 : Option Addr) (c0 : Nat) (l : List (List Int)) (x0 x1 x2 : Int) (w : World) (hr : Kd.C KB8 w A0 l.length l) (hc0 : l.length ≤ c0) (hG : TabOk w) (hs : ∀ p ∈ l, ByteL p) (hlc : ∀ p ∈ l, p.length ≤ 140737488351232) (hR : rightL x0 x1 x2 = false) :
    Calls Tryd.prog 6 #[.agg #[.int .i64 x0, .int .i64 x1, .int .i64 x2], .slice A0 l.length c0] w fun e w' => e = .returned (.bool true) ∧ Below w.heap.size w w' := by
  have hmx : l.length ≤ 9223372036854775807 := hr.2.1
  obtain ⟨w1, hw1⟩ : ∃ w1, w.alloc (.cells #[.int .i64 x0, .int .i64 x1, .int .i64 x2] 23) = w1 := ⟨_, rfl⟩
  have HD := Aside0.mk (show Head9 w w1 _ _ _ by rw [← hw1]; exact head9 w _ _ _)
  have HW := Aside0.mk hw1
  have HG := Aside0.mk (fun (W : World) (h : Below w.heap.size w W) => hG.below h)
  have HR := Aside0.mk hr
  have HS := Aside0.mk hs
  have HLC := Aside0.mk hlc
  clear hr hG hs hlc hw1
  go_enter Tryd.func6, Tryd.ntmps6
  go_wp2_with fail
  rw [HW.out]
  refine (wakes9 w1 (HG.out _ HD.out.b)).mono ?_
  rintro e w2 ⟨rfl, hb2⟩
  have B2 := Aside0.mk (HD.out.b.trans (hb2.mono HD.out.b.size))
  have C2 := Aside0.mk hb2
  clear hb2
  go_wp2_with fail
  go_loopw [5, 27] (fun u5 u27 wr => ∃ k : Nat, u27 = .int .i64 (k : Int) ∧ u5 = .int .i64 ((totP (l.take k) : Nat) : Int) ∧ k ≤ l.length ∧ totP (l.take k) ≤ 600 ∧ Aside0 (Below w1.heap.size w1 wr)) (fun _ u27 _ => l.length - (intOf u27).toNat)
  case atStart => exact ⟨0, rfl, rfl, Nat.zero_le _, Nat.zero_le _, C2⟩
  case round =>
    obtain ⟨k, rfl, rfl, hk, ht, hb⟩ := hrel
    have Br := Aside0.mk (HD.out.b.trans (hb.out.mono HD.out.b.size))
    by_cases hlt : k < l.length
    · have hlt' : (k : Int) < (l.length : Int) := by omega
      have hge' : (0 : Int) ≤ (k : Int) := by omega
      obtain ⟨ad, A', c', eA, hcell, hle, hC⟩ := at_piece8 (Kd.C_below HR.out Br.out) k hlt
      subst eA
      have hcl := HLC.out (l.getD k []) (by rw [List.getD_eq_getElem?_getD, List.getElem?_eq_getElem hlt]; exact List.getElem_mem hlt)
      clear hC
      have HT := Aside0.mk (totP_take l k hlt)
      generalize l.getD k [] = ci at *
      generalize totP (l.take k) = tk at *
      have hw2 : IntKind.i64.wrap ((k : Int) + 1) = (k : Int) + 1 := by
        unfold IntKind.wrap
        simp [IntKind.bits, IntKind.signed]
        omega
      have hw3 : IntKind.i64.wrap ((ci.length : Int) + 1) = (ci.length : Int) + 1 := by
        unfold IntKind.wrap
        simp [IntKind.bits, IntKind.signed]
        omega
      obtain ⟨t2, ht2⟩ : ∃ t2, tk + (ci.length + 1) = t2 := ⟨_, rfl⟩
      have hw4 : IntKind.i64.wrap ((tk : Int) + ((ci.length : Int) + 1)) = (t2 : Int) := by
        unfold IntKind.wrap
        simp [IntKind.bits, IntKind.signed]
        omega
      rw [ht2] at HT
      by_cases h5 : t2 ≤ 600
      · have h5' : ¬ (600 : Int) < (t2 : Int) := by omega
        have HT2 := Aside0.mk ht2
        clear ht2
        go_wp2_with fail
        go_roundw
        case rel => exact ⟨k + 1, by go_num, by rw [HT.out], by omega, by rw [HT.out]; exact h5, hb⟩
        case measure => simp [intOf]; omega
      · have h5' : (600 : Int) < (t2 : Int) := by omega
        have HT2 := Aside0.mk ht2
        clear ht2
        go_wp2
        go_ret
        exact ⟨rfl, Br.out⟩
    · obtain rfl : k = l.length := by omega
      have ht1 : totP l ≤ 600 := by rwa [List.take_of_length_le (Nat.le_refl _)] at ht
      have C3 := Aside0.mk hb.out
      have B3 := Aside0.mk Br.out
      obtain ⟨l0, l1, l2⟩ := HD.out.cells (hb.out.block _ (blk_lt HD.out.l))
      clear hb Br C2 hk hlt
      generalize totP (l.take l.length) = tt at *
      go_wp2_with fail
      refine (new_off x0 x1 x2 wr (HG.out _ B3.out) hR).mono ?_
      rintro e w4 ⟨rfl, hb4⟩
      have B4 := Aside0.mk (B3.out.trans (hb4.mono B3.out.size))
      have C4 := Aside0.mk (C3.out.trans (hb4.mono C3.out.size))
      clear hb4 l0 l1 l2
      obtain ⟨l0, l1, l2⟩ := HD.out.cells (C4.out.block _ (blk_lt HD.out.l))
      go_wp2_with fail
      refine (catchpitref08_Right.calls x0 x1 x2 false w4 (HG.out _ B4.out) ((Right8_eq x0 x1 x2).trans (by rw [hR]))).mono ?_
      rintro e w5 ⟨rfl, hb5⟩
      have B5 := Aside0.mk (B4.out.trans (hb5.mono B4.out.size))
      clear hb5 l0 l1 l2
      go_wp2
      go_ret
      exact ⟨rfl, B5.out⟩
set_option maxHeartbeats 2000000 in
set_option maxRecDepth 100000 in
theorem pieces_go (A0 : Option Addr) (c0 : Nat) (l : List (List Int)) (e0 e1 e2 : Nat) (w : World) (hr : Kd.C KB8 w A0 l.length l) (hc0 : l.length ≤ c0) (hG : TabOk w) (hs : ∀ p ∈ l, ByteL p) (hlc : ∀ p ∈ l, p.length ≤ 140737488351232) (h0 : e0 ≤ 65536) (h1 : e1 ≤ 65536) (h2 : e2 ≤ 65536) :
    Calls Tryd.prog 6 #[.agg #[.int .i64 (e0 : Int), .int .i64 (e1 : Int), .int .i64 (e2 : Int)], .slice A0 l.length c0] w fun e w' => e = .returned (.bool true) ∧ Below w.heap.size w w' := by
  have hmx : l.length ≤ 9223372036854775807 := hr.2.1
  obtain ⟨w1, hw1⟩ : ∃ w1, w.alloc (.cells #[.int .i64 (e0 : Int), .int .i64 (e1 : Int), .int .i64 (e2 : Int)] 23) = w1 := ⟨_, rfl⟩
  have HD := Aside0.mk (show Head9 w w1 _ _ _ by rw [← hw1]; exact head9 w _ _ _)
  have HW := Aside0.mk hw1
  have HG := Aside0.mk (fun (W : World) (h : Below w.heap.size w W) => hG.below h)
  have HR := Aside0.mk hr
  have HS := Aside0.mk hs
  have HLC := Aside0.mk hlc
  clear hr hG hs hlc hw1
  go_enter Tryd.func6, Tryd.ntmps6
  go_wp2_with fail
  rw [HW.out]
  refine (wakes9 w1 (HG.out _ HD.out.b)).mono ?_
  rintro e w2 ⟨rfl, hb2⟩
  have B2 := Aside0.mk (HD.out.b.trans (hb2.mono HD.out.b.size))
  have C2 := Aside0.mk hb2
  clear hb2
  go_wp2_with fail
  go_loopw [5, 27] (fun u5 u27 wr => ∃ k : Nat, u27 = .int .i64 (k : Int) ∧ u5 = .int .i64 ((totP (l.take k) : Nat) : Int) ∧ k ≤ l.length ∧ totP (l.take k) ≤ 600 ∧ Aside0 (Below w1.heap.size w1 wr)) (fun _ u27 _ => l.length - (intOf u27).toNat)
  case atStart => exact ⟨0, rfl, rfl, Nat.zero_le _, Nat.zero_le _, C2⟩
  case round =>
    obtain ⟨k, rfl, rfl, hk, ht, hb⟩ := hrel
    have Br := Aside0.mk (HD.out.b.trans (hb.out.mono HD.out.b.size))
    by_cases hlt : k < l.length
    · have hlt' : (k : Int) < (l.length : Int) := by omega
      have hge' : (0 : Int) ≤ (k : Int) := by omega
      obtain ⟨ad, A', c', eA, hcell, hle, hC⟩ := at_piece8 (Kd.C_below HR.out Br.out) k hlt
      subst eA
      have hcl := HLC.out (l.getD k []) (by rw [List.getD_eq_getElem?_getD, List.getElem?_eq_getElem hlt]; exact List.getElem_mem hlt)
      clear hC
      have HT := Aside0.mk (totP_take l k hlt)
      generalize l.getD k [] = ci at *
      generalize totP (l.take k) = tk at *
      have hw2 : IntKind.i64.wrap ((k : Int) + 1) = (k : Int) + 1 := by
        unfold IntKind.wrap
        simp [IntKind.bits, IntKind.signed]
        omega
      have hw3 : IntKind.i64.wrap ((ci.length : Int) + 1) = (ci.length : Int) + 1 := by
        unfold IntKind.wrap
        simp [IntKind.bits, IntKind.signed]
        omega
      obtain ⟨t2, ht2⟩ : ∃ t2, tk + (ci.length + 1) = t2 := ⟨_, rfl⟩
      have hw4 : IntKind.i64.wrap ((tk : Int) + ((ci.length : Int) + 1)) = (t2 : Int) := by
        unfold IntKind.wrap
        simp [IntKind.bits, IntKind.signed]
        omega
      rw [ht2] at HT
      by_cases h5 : t2 ≤ 600
      · have h5' : ¬ (600 : Int) < (t2 : Int) := by omega
        have HT2 := Aside0.mk ht2
        clear ht2
        go_wp2_with fail
        go_roundw
        case rel => exact ⟨k + 1, by go_num, by rw [HT.out], by omega, by rw [HT.out]; exact h5, hb⟩
        case measure => simp [intOf]; omega
      · have h5' : (600 : Int) < (t2 : Int) := by omega
        have HT2 := Aside0.mk ht2
        clear ht2
        go_wp2
        go_ret
        exact ⟨rfl, Br.out⟩
    · obtain rfl : k = l.length := by omega
      have ht1 : totP l ≤ 600 := by rwa [List.take_of_length_le (Nat.le_refl _)] at ht
      have C3 := Aside0.mk hb.out
      have B3 := Aside0.mk Br.out
      obtain ⟨l0, l1, l2⟩ := HD.out.cells (hb.out.block _ (blk_lt HD.out.l))
      clear hb Br C2 hk hlt
      generalize totP (l.take l.length) = tt at *
      go_wp2_with fail
      refine (new_on e0 e1 e2 wr (HG.out _ B3.out) h0 h1 h2).mono ?_
      rintro e w4 ⟨b, rfl, ha4, hb4⟩
      have B4 := Aside0.mk (B3.out.trans (hb4.mono B3.out.size))
      have C4 := Aside0.mk (C3.out.trans (hb4.mono C3.out.size))
      have HA4 := Aside0.mk ha4
      have HS4 := Aside0.mk hb4.size
      clear hb4 ha4 l0 l1 l2
      obtain ⟨l0, l1, l2⟩ := HD.out.cells (C4.out.block _ (blk_lt HD.out.l))
      go_wp2_with fail
      refine (ref_right_on e0 e1 e2 h0 h1 h2 w4 (HG.out _ B4.out)).mono ?_
      rintro e w5 ⟨rfl, hb5⟩
      have B5 := Aside0.mk (B4.out.trans (hb5.mono B4.out.size))
      have C5 := Aside0.mk (C4.out.trans (hb5.mono C4.out.size))
      have HA5 := Aside0.mk (HA4.out.below hb5)
      have HS5 := Aside0.mk (Nat.le_trans HS4.out hb5.size)
      clear hb5 l0 l1 l2
      go_upto_region 19 with (fail)
      obtain ⟨w9, hw9⟩ : ∃ w9, w5.alloc (.cells (gotC minit none none 0 0 0 4) 41) = w9 := ⟨_, rfl⟩
      have HX9 := Aside0.mk (show w9.heap[w5.heap.size]? = some (.cells (gotC minit none none 0 0 0 4) 41 (0, 0)) by rw [← hw9]; exact World.alloc_heap_new w5 _)
      have HA9 := Aside0.mk (show AtD w9 wr.heap.size b e0 e1 e2 minit 0 (.slice none 0 0) (.slice none 0 0) 0 0 0 by rw [← hw9]; exact HA5.out.below (below_alloc (Below.refl _ _) _))
      have B9 := Aside0.mk (show Below w.heap.size w w9 by rw [← hw9]; exact below_alloc B5.out _)
      have C9 := Aside0.mk (show Below w1.heap.size w1 w9 by rw [← hw9]; exact below_alloc C5.out _)
      have HS9 := Aside0.mk (show wr.heap.size ≤ w9.heap.size by rw [← hw9, World.size_alloc]; have := HS5.out; omega)
      have HE9 := Aside0.mk hw9
      clear hw9
      rw [show w5.alloc (.cells #[.int .i64 0, .int .u64 0, .int .i64 0, .int .i64 0, .int .i64 0, .string ⟨#[]⟩, .slice none 0 0, .slice none 0 0, .int .i64 0, .int .i64 4] 41) = w9 from HE9.out]
      clear HE9
      obtain ⟨bx, hbx⟩ : ∃ bx, w5.heap.size = bx := ⟨_, rfl⟩
      rw [hbx] at HX9
      rw [hbx]
      have HBX := Aside0.mk (show wr.heap.size ≤ bx ∧ bx < w9.heap.size from ⟨by have := HS5.out; omega, blk_lt HX9.out⟩)
      obtain ⟨BB, hBB⟩ : ∃ BB, wr.heap.size = BB := ⟨_, rfl⟩
      have HWB := Aside0.mk (show w.heap.size ≤ BB by rw [← hBB]; exact B3.out.size)
      have HW1B := Aside0.mk (show w1.heap.size ≤ BB by rw [← hBB]; exact C3.out.size)
      rw [hBB] at HA9 HS9 HBX
      clear hbx hBB
      go_wp2_with fail
      go_loopw [10, 11, 62] (fun u10 u11 u62 W => ∃ (k a : Nat) (Y : MSt Fld) (er : Int) (co : Nat) (ov lv fv : Value) (X0 X1 : Option Addr) (j0 j1 : Nat), u10 = ov ∧ u11 = .int .i64 (Y.data.length : Int) ∧ u62 = .int .i64 (k : Int) ∧ k ≤ l.length ∧ Aside0 (RoundP w9 W BB b bx e0 e1 e2 (l.take k).flatten Y a er co ov lv fv X0 X1 j0 j1)) (fun u10 u11 u62 W => l.length - (intOf u62).toNat)
      case atStart =>
        refine ⟨0, 0, minit, 4, 0, _, _, _, none, none, 0, 0, rfl, rfl, rfl, Nat.zero_le _, ⟨⟨HA9.out, ⟨Nat.le_refl _, fun _ _ h _ => h, fun x hx => .inl (hx.imp own_new id)⟩, Below.refl _ _, RowD.zero _ _, fun x hx => by simp [Value.ownBlock] at hx, HX9.out, ?_, fun _ => ⟨rfl, by decide, invN_init, rfl⟩, Nat.le_refl _, Nat.le_refl _, Nat.le_refl _, Nat.le_refl _, fun h => absurd rfl h⟩⟩⟩
        rw [List.take_zero]
        rfl
      case round =>
        obtain ⟨k, a, Y, er, co, ov, lv, fv, X0, X1, j0, j1, rfl, rfl, rfl, hk, HQ⟩ := hrel
        have Br := Aside0.mk (B9.out.trans (HQ.out.bl.mono HWB.out))
        have Cr := Aside0.mk (C9.out.trans (HQ.out.bl.mono HW1B.out))
        by_cases hlt : k < l.length
        · have hlt' : (k : Int) < (l.length : Int) := by omega
          have hge' : (0 : Int) ≤ (k : Int) := by omega
          obtain ⟨adp, Ap, cp, eA, hcw, hle, hCp⟩ := at_piece8 HR.out k hlt
          have hcp := pw_cell_below Br.out hcw
          subst eA
          have hbp := HS.out (l.getD k []) (by rw [List.getD_eq_getElem?_getD, List.getElem?_eq_getElem hlt]; exact List.getElem_mem hlt)
          have hfl := flat_take l k hlt
          have htp := totP_take l k hlt
          have htl := totP_le l (k + 1)
          have hfk := flat_le (l.take k)
          obtain ⟨k1, hk1⟩ : ∃ k1, k + 1 = k1 := ⟨_, rfl⟩
          have hw1 : IntKind.i64.wrap ((k : Int) + 1) = (k1 : Int) := by
            unfold IntKind.wrap
            simp [IntKind.bits, IntKind.signed]
            omega
          generalize l.getD k [] = p at *
          obtain ⟨T, hT⟩ : ∃ T, (l.take k).flatten = T := ⟨_, rfl⟩
          rw [hT] at hfl hfk HQ
          rw [hk1] at hfl
          have HFL := Aside0.mk hfl
          have HK1 := Aside0.mk hk1
          have hTp : T.length + p.length ≤ 600 := by omega
          have HTP := Aside0.mk hTp
          have HTB := Aside0.mk (show ByteL T from fun x hx => by
            rw [← hT] at hx
            obtain ⟨q, hq, hxq⟩ := List.mem_flatten.1 hx
            exact HS.out q (List.mem_of_mem_take hq) x hxq)
          have hp6 : p.length ≤ 600 := by omega
          have HPW := Aside0.mk (fun (W' : World) (hb : Below w.heap.size w W') => Kd.C_below hCp hb)
          have HBP := Aside0.mk hbp
          have HAP := Aside0.mk (show 0 < p.length → ∀ ad, Ap = some ad → ad.block < w.heap.size from fun hp ad e => by subst e; exact C_lt hCp hp)
          have hla : (T.take a).length = a := by rw [List.length_take]; have := HQ.out.aT; omega
          obtain ⟨Ao, cO, q, hcO, _⟩ := HQ.out.row.reads
          rw [hla] at q hcO
          subst q
          have haT := HQ.out.aT
          have hdl := HQ.out.dl
          have HBr := Aside0.mk (Nat.le_trans HS9.out HQ.out.m.sz)
          have HXB := Aside0.mk (HQ.out.at_.not_got HQ.out.x)
          clear hcw hCp hbp hfl htp htl hfk hT hk1
          by_cases he4 : er = 4
          · subst he4
            obtain ⟨hco, hp, hI, hak⟩ := HQ.out.ok rfl
            subst hco
            subst hak
            have HP := Aside0.mk (put_does BB b e0 e1 e2 Y lv fv T.length Y.data.length T.length Ap cp p wr HQ.out.at_ (fun W' hW => HG.out W' (Br.out.trans (hW.mono HWB.out))) HBr.out hI (by omega) hp (by omega) (by omega) HBP.out (HPW.out wr Br.out) hle (fun hp ad e hn => by
              have h1 := HAP.out hp ad e
              have h2 := HQ.out.at_.own_ge hn
              have := HWB.out
              omega))
            have hpl := run_place (E := envM e0 e1 e2) p 0 Y hp
            have hf4 := run_four (E := envM e0 e1 e2) p 0 Y
            have hnx : mrun (envM e0 e1 e2) minit (T ++ p) 0 = ((mrun (envM e0 e1 e2) Y p 0).1, T.length + (mrun (envM e0 e1 e2) Y p 0).2.1, (mrun (envM e0 e1 e2) Y p 0).2.2) := by
              rw [run_append, HQ.out.run]
              dsimp only
              rw [if_pos ⟨rfl, by omega⟩, run_shift, Nat.zero_add]
            have HI := Aside0.mk hI
            clear hI hp
            go_wp2_with fail
            refine HP.out.mono ?_
            rintro e w6 ⟨Y6, a6, er6, out6, ov6, lv6, fv6, co6, hrun6, rfl, hrow6, hdat6, hat6, hco6, hfar6, hle6, hol6, hdis6⟩
            obtain ⟨A6, c6, rfl, hc6, hC6⟩ := hrow6.reads
            rw [hrun6] at hnx hpl hf4
            dsimp only at hnx hpl hf4
            obtain ⟨a7, ha7⟩ : ∃ a7, T.length + a6 = a7 := ⟨_, rfl⟩
            have hdl6 : Y.data.length + out6.length = Y6.data.length := by rw [hdat6, List.length_append]
            rw [ha7] at hnx hat6
            rw [hdl6] at hat6
            have HX6 := Aside0.mk (hfar6.m.bl bx _ HQ.out.x HXB.out)
            have HNX := Aside0.mk hnx
            have HPL := Aside0.mk hpl
            have HF4 := Aside0.mk hf4
            have HRN6 := Aside0.mk hrun6
            have HA6 := Aside0.mk hat6
            have HF6 := Aside0.mk hfar6
            have HD6 := Aside0.mk hdat6
            have HCO6 := Aside0.mk hco6
            have HA7 := Aside0.mk ha7
            have HC6 := Aside0.mk (And.intro hc6 hC6)
            have HRW := Aside0.mk (HQ.out.row.moves hfar6.m HQ.out.dis)
            have HROW6 := Aside0.mk hrow6
            have HNE := Aside0.mk (show w.heap.size ≠ bx by have := blk_lt HD.out.l; have := HW1B.out; have := HBX.out.1; omega)
            have hx6 := HX6.out
            have xx0 : w6.cell? ⟨bx, 0, none⟩ = some (Value.int .i64 (Y.place : Int)) := (blk_cell hx6 0).trans rfl
            have xx1 : w6.cell? ⟨bx, 1, none⟩ = some (Value.int .u64 (Y.n : Int)) := (blk_cell hx6 1).trans rfl
            have xx2 : w6.cell? ⟨bx, 2, none⟩ = some (Value.int .i64 (Y.count : Int)) := (blk_cell hx6 2).trans rfl
            have xx3 : w6.cell? ⟨bx, 3, none⟩ = some (Value.int .i64 (Y.lines : Int)) := (blk_cell hx6 3).trans rfl
            have xx4 : w6.cell? ⟨bx, 4, none⟩ = some (Value.int .i64 (Y.size : Int)) := (blk_cell hx6 4).trans rfl
            have xx5 : w6.cell? ⟨bx, 5, none⟩ = some (Value.string (strOfNums Y.text)) := (blk_cell hx6 5).trans rfl
            have xx6 : w6.cell? ⟨bx, 6, none⟩ = some (Value.slice X0 Y.data.length j0) := (blk_cell hx6 6).trans rfl
            have xx7 : w6.cell? ⟨bx, 7, none⟩ = some (Value.slice X1 Y.fields.length j1) := (blk_cell hx6 7).trans rfl
            have xx8 : w6.cell? ⟨bx, 8, none⟩ = some (Value.int .i64 (T.length : Int)) := (blk_cell hx6 8).trans rfl
            have xx9 : w6.cell? ⟨bx, 9, none⟩ = some (Value.int .i64 4) := (blk_cell hx6 9).trans rfl
            clear hx6 hrun6 hrow6 hdat6 hat6 hco6 hfar6 hdis6 hC6 hnx hpl hf4 ha7 HP hcp
            have B6 := Aside0.mk (Br.out.trans (HF6.out.b.mono HWB.out))
            have C6 := Aside0.mk (Cr.out.trans (HF6.out.b.mono HW1B.out))
            go_upto_region 25 with (fail)
            obtain ⟨wA, hwA⟩ : ∃ wA, w6.alloc (.cells #[Value.int .i64 (Y.place : Int), Value.int .u64 (Y.n : Int), Value.int .i64 (Y.count : Int), Value.int .i64 (Y.lines : Int), Value.int .i64 (Y.size : Int), Value.string (strOfNums Y.text), Value.slice X0 Y.data.length j0, Value.slice X1 Y.fields.length j1, Value.int .i64 (T.length : Int), Value.int .i64 4] 41) = wA := ⟨_, rfl⟩
            have HBA := Aside0.mk (show Below w6.heap.size w6 wA by rw [← hwA]; exact below_alloc (Below.refl _ _) _)
            have HWS := Aside0.mk (show wA.heap[w6.heap.size]? = some (.cells #[Value.int .i64 (Y.place : Int), Value.int .u64 (Y.n : Int), Value.int .i64 (Y.count : Int), Value.int .i64 (Y.lines : Int), Value.int .i64 (Y.size : Int), Value.string (strOfNums Y.text), Value.slice X0 Y.data.length j0, Value.slice X1 Y.fields.length j1, Value.int .i64 (T.length : Int), Value.int .i64 4] 41 (0, 0)) by rw [← hwA]; exact World.alloc_heap_new w6 _)
            have HNA := Aside0.mk (show w6.heap.size < wA.heap.size from blk_lt HWS.out)
            rw [hwA]
            clear hwA xx0 xx1 xx2 xx3 xx4 xx5 xx6 xx7 xx8 xx9
            have BA := Aside0.mk (B6.out.trans (HBA.out.mono B6.out.size))
            have CA := Aside0.mk (C6.out.trans (HBA.out.mono C6.out.size))
            have HLF := Aside0.mk (fun (W' : World) (h : Below wA.heap.size wA W') => HD.out.cells ((CA.out.trans (h.mono CA.out.size)).block _ (blk_lt HD.out.l)))
            have HXA := Aside0.mk (blk_below HX6.out HBA.out)
            have HTT := Aside0.mk (show T.take T.length = T from List.take_length)
            have hcall : Kd.C (Kd.int .u8) w6 Ao T.length T := by
              obtain ⟨_, _, q, _, hC⟩ := HRW.out.1.reads
              rw [HTT.out] at q hC
              cases q
              exact hC
            have HCA := Aside0.mk (Kd.C_below hcall HBA.out)
            have dd := HLF.out _ (below_drew (Below.refl wA.heap.size wA))
            have HWE := Aside0.mk (below_drew (below_alloc (Below.refl wA.heap.size wA) (.cells #[] 5)))
            have HWN := Aside0.mk (show ((wA.alloc (.cells #[] 5)).drew).heap[wA.heap.size]? = some (.cells #[] 5 (0, 0)) from blk_drew (heap_alloc_new wA _))
            clear hcall
            obtain ⟨TP, hTPe⟩ : ∃ TP, T ++ p = TP := ⟨_, rfl⟩
            have HTPE := Aside0.mk hTPe
            have HTPB := Aside0.mk (show ByteL TP ∧ TP.length ≤ 100000 by
              rw [← hTPe]
              exact ⟨fun x hx => (List.mem_append.1 hx).elim (HTB.out x) (HBP.out x), by rw [List.length_append]; omega⟩)
            clear hTPe
            refine wp_region_held_drew (S := (fun W => W.cell? ⟨w.heap.size, 0, none⟩ = some (.int .i64 (e0 : Int)) ∧ W.cell? ⟨w.heap.size, 1, none⟩ = some (.int .i64 (e1 : Int)) ∧ W.cell? ⟨w.heap.size, 2, none⟩ = some (.int .i64 (e2 : Int)))) (by kernel_rfl) ?_ (fun hHeld => ?_)
            · exact dd
            refine take_at (i := 1) (take_d rfl) ?_
            intro h_i
            refine wpAnyH_take (v := ?_) h_i (by kernel_rfl) (by kernel_rfl) (by kernel_rfl) (fun _ _ _ h => h) (Or.inl ⟨by rfl, ?_⟩) (by assumption) ?_
            case refine_2 => (intro w hSw; (try dsimp only at hSw); go_simp; (try with_reducible rfl))
            clear h_i
            try simp only [Act.put, List.setIfInBounds_toArray, List.set_cons_zero, List.set_cons_succ]
            refine take_at (i := 3) (take_d rfl) ?_
            intro h_i
            refine wpAnyH_take (v := ?_) h_i (by kernel_rfl) (by kernel_rfl) (by kernel_rfl) (fun _ _ _ h => h) (Or.inl ⟨by rfl, ?_⟩) (by assumption) ?_
            case refine_2 => (intro w hSw; (try dsimp only at hSw); go_simp; (try with_reducible rfl))
            clear h_i
            try simp only [Act.put, List.setIfInBounds_toArray, List.set_cons_zero, List.set_cons_succ]
            refine take_at (i := 5) (take_d rfl) ?_
            intro h_i
            refine wpAnyH_take (v := ?_) h_i (by kernel_rfl) (by kernel_rfl) (by kernel_rfl) (fun _ _ _ h => h) (Or.inl ⟨by rfl, ?_⟩) (by assumption) ?_
            case refine_2 => (intro w hSw; (try dsimp only at hSw); go_simp; (try with_reducible rfl))
            clear h_i
            try simp only [Act.put, List.setIfInBounds_toArray, List.set_cons_zero, List.set_cons_succ]
            refine wpAnyH_ready (rs := [0]) (by kernel_rfl) (by simp) ?_
            refine AllReadyH.cons (take_d rfl) (fun zK hK => ?_) AllReadyH.nil
            go_simp
            refine hK.out _ _ ?_ (fun hHeld2 => ?_)
            · exact HLF.out _ HWE.out
            clear hK zK hHeld
            have hHeld := hHeld2
            clear hHeld2
            try simp only [Act.put, List.setIfInBounds_toArray, List.set_cons_zero, List.set_cons_succ]
            refine wpAnyH_ready (rs := [2]) (by kernel_rfl) (by simp) ?_
            refine AllReadyH.cons (take_d rfl) (fun zK hK => ?_) AllReadyH.nil
            rw [if_pos (by rfl)]
            refine wp_plusB (W0 := (wA.alloc (.cells #[] 5)).drew) wA.heap.size _ _ 24 (.int .u8 0) rfl Tryd.underlying24 info5 rfl (.slice (some ⟨wA.heap.size, 0, none⟩) 0 0) [] T Ao cO rfl rfl (row_emptyD HWN.out (Nat.le_refl _)) (Kd.C_below HCA.out HWE.out) (Below.refl _ _) HWE.out.size (by simp only [List.length_nil]; omega) ?_
            intro v8 w8 hr8 hb8 hz8 hk8
            rw [List.nil_append] at hr8
            obtain ⟨A8, c8, q8, _, _⟩ := hr8.reads
            subst q8
            have HR8 := Aside0.mk hr8
            have HB8 := Aside0.mk (HWE.out.trans hb8)
            clear hr8 hb8 hz8 hk8
            refine hK.out _ _ ?_ (fun hHeld2 => ?_)
            · exact HLF.out _ HB8.out
            clear hK zK hHeld
            have hHeld := hHeld2
            clear hHeld2
            try simp only [Act.put, List.setIfInBounds_toArray, List.set_cons_zero, List.set_cons_succ]
            refine wpAnyH_ready (rs := [4]) (by kernel_rfl) (by simp) ?_
            refine AllReadyH.cons (take_d rfl) (fun zK hK => ?_) AllReadyH.nil
            rw [if_pos (by rfl)]
            refine wp_plusB (W0 := w8) wA.heap.size _ _ 24 (.int .u8 0) rfl Tryd.underlying24 info5 rfl (.slice A8 T.length c8) T p Ap cp rfl rfl HR8.out (HPW.out w8 (BA.out.trans (HB8.out.mono BA.out.size))) (Below.refl _ _) HB8.out.size (by omega) ?_
            intro v9 w9' hr9 hb9 hz9 hk9
            rw [HTPE.out] at hr9
            obtain ⟨A9, c9, q9, hc9, hC9⟩ := hr9.reads
            subst q9
            have HB9 := Aside0.mk (HB8.out.trans hb9)
            have HC9 := Aside0.mk (And.intro hc9 hC9)
            clear hr9 hb9 hz9 hk9 hc9 hC9
            refine hK.out _ _ ?_ (fun hHeld2 => ?_)
            · exact HLF.out _ HB9.out
            clear hK zK hHeld
            have hHeld := hHeld2
            clear hHeld2
            try simp only [Act.put, List.setIfInBounds_toArray, List.set_cons_zero, List.set_cons_succ]
            refine wpAnyH_ready (rs := [6]) (by kernel_rfl) (by simp) ?_
            refine AllReadyH.cons (take_d rfl) (fun zK hK => ?_) AllReadyH.nil
            go_simp
            refine (scan8_fresh A9 c9 TP e0 e1 e2 w9' HC9.out.2 HC9.out.1 (HG.out _ (BA.out.trans (HB9.out.mono BA.out.size))) HTPB.out.1 HTPB.out.2).mono ?_
            rintro e w10 ⟨Y', a', er', Z0, Z1, i0, i1, rfl, hrun', hi0, hi1, hz0, hz1, hb10, hfr10⟩
            have HB10 := Aside0.mk (HB9.out.trans (hb10.mono HB9.out.size))
            have HZ := Aside0.mk (And.intro hi0 (And.intro hi1 (And.intro hz0 hz1)))
            have HFR := Aside0.mk (fun ad e => Nat.le_trans HB9.out.size (hfr10 ad e))
            have HRN := Aside0.mk hrun'
            have hx10 := (HB10.out.block _ (blk_lt HXA.out)).trans HXA.out
            have q0 : w10.cell? ⟨bx, 0, none⟩ = some (Value.int .i64 (Y.place : Int)) := (blk_cell hx10 0).trans rfl
            have z0 := blk_frozen hx10 0
            have q1 : w10.cell? ⟨bx, 1, none⟩ = some (Value.int .u64 (Y.n : Int)) := (blk_cell hx10 1).trans rfl
            have z1 := blk_frozen hx10 1
            have q2 : w10.cell? ⟨bx, 2, none⟩ = some (Value.int .i64 (Y.count : Int)) := (blk_cell hx10 2).trans rfl
            have z2 := blk_frozen hx10 2
            have q3 : w10.cell? ⟨bx, 3, none⟩ = some (Value.int .i64 (Y.lines : Int)) := (blk_cell hx10 3).trans rfl
            have z3 := blk_frozen hx10 3
            have q4 : w10.cell? ⟨bx, 4, none⟩ = some (Value.int .i64 (Y.size : Int)) := (blk_cell hx10 4).trans rfl
            have z4 := blk_frozen hx10 4
            have q5 : w10.cell? ⟨bx, 5, none⟩ = some (Value.string (strOfNums Y.text)) := (blk_cell hx10 5).trans rfl
            have z5 := blk_frozen hx10 5
            have q6 : w10.cell? ⟨bx, 6, none⟩ = some (Value.slice X0 Y.data.length j0) := (blk_cell hx10 6).trans rfl
            have z6 := blk_frozen hx10 6
            have q7 : w10.cell? ⟨bx, 7, none⟩ = some (Value.slice X1 Y.fields.length j1) := (blk_cell hx10 7).trans rfl
            have z7 := blk_frozen hx10 7
            have q8 : w10.cell? ⟨bx, 8, none⟩ = some (Value.int .i64 (T.length : Int)) := (blk_cell hx10 8).trans rfl
            have z8 := blk_frozen hx10 8
            have q9 : w10.cell? ⟨bx, 9, none⟩ = some (Value.int .i64 4) := (blk_cell hx10 9).trans rfl
            have z9 := blk_frozen hx10 9
            have HX10 := Aside0.mk hx10
            have HL10 := Aside0.mk ((CA.out.trans (HB10.out.mono CA.out.size)).block _ (blk_lt HD.out.l))
            clear hrun' hi0 hi1 hz0 hz1 hb10 hfr10 hx10
            go_wp2_with fail
            refine hK.out _ _ ?_ (fun hHeld2 => ?_)
            · exact HLF.out _ HB10.out
            clear hK zK hHeld
            have hHeld := hHeld2
            clear hHeld2
            try simp only [Act.put, List.setIfInBounds_toArray, List.set_cons_zero, List.set_cons_succ]
            refine wpAnyH_ready (rs := [7]) (by kernel_rfl) (by simp) ?_
            refine AllReadyH.cons (take_d rfl) (fun zK hK => ?_) AllReadyH.nil
            go_simp
            refine hK.out _ _ ?_ (fun hHeld2 => ?_)
            · exact HD.out.cells ((far10 w10 bx _ _ _ _ _ _ _ _ _ _ w.heap.size HNE.out).trans HL10.out)
            clear hK zK hHeld
            have hHeld := hHeld2
            clear hHeld2
            try simp only [Act.put, List.setIfInBounds_toArray, List.set_cons_zero, List.set_cons_succ]
            refine wpAnyH_done (by kernel_rfl) ?_ _
            obtain ⟨rfl, rfl, rfl⟩ : Y6 = Y' ∧ a7 = a' ∧ er6 = er' := by
              have h1 := HNX.out
              rw [HTPE.out, HRN.out] at h1
              simp only [Prod.mk.injEq] at h1
              exact ⟨h1.1.symm, h1.2.1.symm, h1.2.2.symm⟩
            obtain ⟨wB, hwB⟩ : ∃ wB, ((((((((((w10.setCell ⟨bx, 0, none⟩ (Value.int .i64 (Y6.place : Int))).setCell ⟨bx, 1, none⟩ (Value.int .u64 (Y6.n : Int))).setCell ⟨bx, 2, none⟩ (Value.int .i64 (Y6.count : Int))).setCell ⟨bx, 3, none⟩ (Value.int .i64 (Y6.lines : Int))).setCell ⟨bx, 4, none⟩ (Value.int .i64 (Y6.size : Int))).setCell ⟨bx, 5, none⟩ (Value.string (strOfNums Y6.text))).setCell ⟨bx, 6, none⟩ (Value.slice Z0 Y6.data.length i0)).setCell ⟨bx, 7, none⟩ (Value.slice Z1 Y6.fields.length i1)).setCell ⟨bx, 8, none⟩ (Value.int .i64 (a7 : Int))).setCell ⟨bx, 9, none⟩ (Value.int .i64 er6)) = wB := ⟨_, rfl⟩
            have HFB := Aside0.mk (show ∀ x, x ≠ bx → wB.heap[x]? = w10.heap[x]? from fun x hx => by rw [← hwB]; exact far10 w10 bx _ _ _ _ _ _ _ _ _ _ x hx)
            have XB := Aside0.mk (show wB.heap[bx]? = some (.cells (gotC Y6 Z0 Z1 i0 i1 a7 er6) 41 (0, 0)) by rw [← hwB]; exact put10 HX10.out _ _ _ _ _ _ _ _ _ _)
            have H610 := Aside0.mk (HBA.out.trans (HB10.out.mono HBA.out.size))
            have HBWB := Aside0.mk (show Below BB w10 wB by rw [← hwB]; exact below_put10 (Below.refl _ _) bx HBX.out.1 _ _ _ _ _ _ _ _ _ _)
            rw [hwB]
            clear hwB
            have HBB6 := Aside0.mk (Nat.le_trans HBr.out HF6.out.m.sz)
            have M6B := fun (S : Nat → Prop) (hS : S bx) => moves_put (S := S) H610.out HFB.out HBWB.out.size hS
            have AB := Aside0.mk (HA6.out.moves (M6B (fun x => x = bx) rfl) (fun x hx e => HA6.out.not_got HX6.out (e ▸ hx)))
            have RB := Aside0.mk (HRW.out.1.moves (M6B (fun x => x = bx) rfl) (fun x hx e => HRW.out.1.not_got HX6.out (e ▸ hx))).1
            have DB := Aside0.mk HRW.out.2
            have OB := Aside0.mk (C8_moves (M6B (fun x => x = bx) rfl) HC6.out.2 (fun hp ad e hb => by
              subst e
              exact HROW6.out.not_got HX6.out (by rw [← hb]; rfl)))
            have MB := Aside0.mk ((HQ.out.m.trans (HF6.out.m.lift (R := fun x => x = bx))).trans (M6B (fun x => Own3 b lv6 fv6 x ∨ x = bx) (.inr rfl)))
            have BBt := Aside0.mk ((HQ.out.bl.trans HF6.out.b).trans ((H610.out.mono HBB6.out).trans HBWB.out))
            have HW9 := Aside0.mk (show wB.cell? ⟨w6.heap.size, 9, none⟩ = some (.int .i64 4) from (blk_cell ((HFB.out _ (by have := blk_lt HX6.out; omega)).trans ((HB10.out.block _ HNA.out).trans HWS.out)) 9).trans rfl)
            have C0 := Aside0.mk (C8_keep HX10.out (noRowG _ _ _ _ _ _ _) HFB.out HZ.out.2.2.1)
            have CF := Aside0.mk (CF_keep HX10.out (noRowG _ _ _ _ _ _ _) HFB.out HZ.out.2.2.2)
            clear M6B
            by_cases h64 : er6 = 4
            · subst h64
              have hed : errD 4 = 0 := rfl
              rw [hed] at AB
              rw [hed]
              have HED := Aside0.mk hed
              clear hed
              have hx := XB.out
              have xk0 : wB.cell? ⟨bx, 0, none⟩ = some (Value.int .i64 (Y6.place : Int)) := (blk_cell hx 0).trans rfl
              have xk1 : wB.cell? ⟨bx, 1, none⟩ = some (Value.int .u64 (Y6.n : Int)) := (blk_cell hx 1).trans rfl
              have xk2 : wB.cell? ⟨bx, 2, none⟩ = some (Value.int .i64 (Y6.count : Int)) := (blk_cell hx 2).trans rfl
              have xk3 : wB.cell? ⟨bx, 3, none⟩ = some (Value.int .i64 (Y6.lines : Int)) := (blk_cell hx 3).trans rfl
              have xk4 : wB.cell? ⟨bx, 4, none⟩ = some (Value.int .i64 (Y6.size : Int)) := (blk_cell hx 4).trans rfl
              have xk5 : wB.cell? ⟨bx, 5, none⟩ = some (Value.string (strOfNums Y6.text)) := (blk_cell hx 5).trans rfl
              have xk6 : wB.cell? ⟨bx, 6, none⟩ = some (Value.slice Z0 Y6.data.length i0) := (blk_cell hx 6).trans rfl
              have xk7 : wB.cell? ⟨bx, 7, none⟩ = some (Value.slice Z1 Y6.fields.length i1) := (blk_cell hx 7).trans rfl
              have xk8 : wB.cell? ⟨bx, 8, none⟩ = some (Value.int .i64 (a7 : Int)) := (blk_cell hx 8).trans rfl
              have xk9 : wB.cell? ⟨bx, 9, none⟩ = some (Value.int .i64 4) := (blk_cell hx 9).trans rfl
              have kw9 := HW9.out
              have hwa : IntKind.i64.wrap ((a7 : Int) - (T.length : Int)) = (a6 : Int) := by
                have := HA7.out
                unfold IntKind.wrap
                simp [IntKind.bits, IntKind.signed]
                omega
              have hdl6 : Y.data.length + out6.length = Y6.data.length := by rw [HD6.out, List.length_append]
              obtain ⟨Zm, im, hcf, hcm⟩ : ∃ Zm im, (∀ W : World, (Instr.slice 24 (.slice Z0 Y6.data.length i0) (some (.int .i64 (Y.data.length : Int))) none none).run Tryd.prog W = .ok (.slice Zm out6.length im) W) ∧ Aside0 (out6.length ≤ im ∧ Kd.C (Kd.int .u8) wB Zm out6.length out6) := by
                have hq : (Tryd.prog.info? 5).map (fun i => i.size) = some 1 := by kernel_rfl
                obtain ⟨i9, hi9, hsz9⟩ := Option.map_eq_some_iff.1 hq
                have h1 := cut_from (P := Tryd.prog) 24 5 .i64 Tryd.underlying24 hi9 1 hsz9 Z0 Y6.data.length i0 (Y.data.length : Int) (by omega) (by omega)
                rw [Int.toNat_natCast] at h1
                have h2 := Kd.C_drop (m := Y.data.length) C0.out (by omega) HZ.out.1
                have h3 : Y6.data.drop Y.data.length = out6 := by rw [HD6.out, List.drop_left]
                rw [h3, show (Kd.int .u8).sz = 1 from rfl] at h2
                refine ⟨_, i0 - Y.data.length, fun W => ?_, ⟨by have := HZ.out.1; omega, h2⟩⟩
                rw [h1 W, show Y6.data.length - Y.data.length = out6.length by omega]
              have hq0 : (Tryd.prog.info? 5).map (fun i => i.size) = some 1 := by kernel_rfl
              obtain ⟨i8, hi8, hsz8⟩ := Option.map_eq_some_iff.1 hq0
              have hct := cut_to (P := Tryd.prog) 24 5 .i64 Tryd.underlying24 hi8 Ap p.length cp (a6 : Int) (by omega) (by omega) hle
              rw [Int.toNat_natCast] at hct
              have HSM := Aside0.mk (catchpitref08_Same.calls 1000001 A6 c6 out6 Zm im out6 true wB OB.out HC6.out.1 hcm.out.2 hcm.out.1 (HG.out _ (B9.out.trans (BBt.out.mono HWB.out))) (by rw [Same8_eq _ _ (by omega) _ (by omega), decide_eq_true rfl]))
              have hml : (p.take a6).length = a6 := by rw [List.length_take]; omega
              clear hx hq0 hi8 hsz8 hdl6
              go_wp2_with fail
              refine HSM.out.mono ?_
              rintro e w11 ⟨rfl, hd11⟩
              have HB11 := Aside0.mk hd11.below
              clear hd11 HSM hcf xk0 xk1 xk2 xk3 xk4 xk5 xk6 xk7 xk8 xk9 kw9
              have hx := blk_below XB.out HB11.out
              have xk0 : w11.cell? ⟨bx, 0, none⟩ = some (Value.int .i64 (Y6.place : Int)) := (blk_cell hx 0).trans rfl
              have xk1 : w11.cell? ⟨bx, 1, none⟩ = some (Value.int .u64 (Y6.n : Int)) := (blk_cell hx 1).trans rfl
              have xk2 : w11.cell? ⟨bx, 2, none⟩ = some (Value.int .i64 (Y6.count : Int)) := (blk_cell hx 2).trans rfl
              have xk3 : w11.cell? ⟨bx, 3, none⟩ = some (Value.int .i64 (Y6.lines : Int)) := (blk_cell hx 3).trans rfl
              have xk4 : w11.cell? ⟨bx, 4, none⟩ = some (Value.int .i64 (Y6.size : Int)) := (blk_cell hx 4).trans rfl
              have xk5 : w11.cell? ⟨bx, 5, none⟩ = some (Value.string (strOfNums Y6.text)) := (blk_cell hx 5).trans rfl
              have xk6 : w11.cell? ⟨bx, 6, none⟩ = some (Value.slice Z0 Y6.data.length i0) := (blk_cell hx 6).trans rfl
              have xk7 : w11.cell? ⟨bx, 7, none⟩ = some (Value.slice Z1 Y6.fields.length i1) := (blk_cell hx 7).trans rfl
              have xk8 : w11.cell? ⟨bx, 8, none⟩ = some (Value.int .i64 (a7 : Int)) := (blk_cell hx 8).trans rfl
              have xk9 : w11.cell? ⟨bx, 9, none⟩ = some (Value.int .i64 4) := (blk_cell hx 9).trans rfl
              clear hx
              have RB1 := Aside0.mk (show RowD w11 w9.heap.size (.slice Ao T.length cO) T by
                have := (RB.out.moves (Moves.of_below (S := fun _ => False) HB11.out) (fun _ _ h => h)).1
                rwa [HTT.out] at this)
              have HPT := Aside0.mk (Kd.C_take (m := a6) (HPW.out w11 ((B9.out.trans (BBt.out.mono HWB.out)).trans (HB11.out.mono (Nat.le_trans B9.out.size BBt.out.size)))) (by omega))
              have hw911 : w9.heap.size ≤ w11.heap.size := Nat.le_trans MB.out.sz HB11.out.size
              have hlo : T.length + (p.take a6).length ≤ 140737488355328 := by omega
              have HML := Aside0.mk hml
              clear hml
              go_wp2_with ((with_reducible refine gate_builtin (b := .append) (xs := #[.tmp 120, .tmp 123]) rfl ?_); at_builtin; refine list_plusD w9.heap.size rfl (.tmp 120) (.tmp 123) 24 (.int .u8 0) rfl Tryd.underlying24 info5 rfl (.slice Ao T.length cO) T (p.take a6) Ap cp rfl (by rw [HML.out]; rfl) RB1.out HPT.out hw911 hlo ?_; intro v12 w12 hr12 hb12 hg12 hat12; obtain ⟨A12, c12, q12, _, _⟩ := hr12.reads; rw [show (T ++ p.take a6).length = a7 from by rw [List.length_append, HML.out]; exact HA7.out] at q12; subst q12; have HR12 := Aside0.mk hr12; have HB12 := Aside0.mk hb12; have HG12 := Aside0.mk hg12; have HT12 := Aside0.mk hat12; have hx12 := (hg12.block bx (Nat.lt_of_lt_of_le (blk_lt XB.out) HB11.out.size) (fun e => RB1.out.not_got (blk_below XB.out HB11.out) e.symm)).trans (blk_below XB.out HB11.out); have HX12 := Aside0.mk hx12; clear xk0 xk1 xk2 xk3 xk4 xk5 xk6 xk7 xk8 xk9; have xk0 : w12.cell? ⟨bx, 0, none⟩ = some (Value.int .i64 (Y6.place : Int)) := (blk_cell hx12 0).trans rfl; have xk1 : w12.cell? ⟨bx, 1, none⟩ = some (Value.int .u64 (Y6.n : Int)) := (blk_cell hx12 1).trans rfl; have xk2 : w12.cell? ⟨bx, 2, none⟩ = some (Value.int .i64 (Y6.count : Int)) := (blk_cell hx12 2).trans rfl; have xk3 : w12.cell? ⟨bx, 3, none⟩ = some (Value.int .i64 (Y6.lines : Int)) := (blk_cell hx12 3).trans rfl; have xk4 : w12.cell? ⟨bx, 4, none⟩ = some (Value.int .i64 (Y6.size : Int)) := (blk_cell hx12 4).trans rfl; have xk5 : w12.cell? ⟨bx, 5, none⟩ = some (Value.string (strOfNums Y6.text)) := (blk_cell hx12 5).trans rfl; have xk6 : w12.cell? ⟨bx, 6, none⟩ = some (Value.slice Z0 Y6.data.length i0) := (blk_cell hx12 6).trans rfl; have xk7 : w12.cell? ⟨bx, 7, none⟩ = some (Value.slice Z1 Y6.fields.length i1) := (blk_cell hx12 7).trans rfl; have xk8 : w12.cell? ⟨bx, 8, none⟩ = some (Value.int .i64 (a7 : Int)) := (blk_cell hx12 8).trans rfl; have xk9 : w12.cell? ⟨bx, 9, none⟩ = some (Value.int .i64 4) := (blk_cell hx12 9).trans rfl; clear hr12 hb12 hg12 hat12 hx12)
              have HL12 := Aside0.mk (show wB.heap.size ≤ w12.heap.size from Nat.le_trans HB11.out.size HG12.out.size)
              have DB11 := Aside0.mk (show ∀ x, (Value.slice Ao T.length cO).ownBlock = some x → ¬ Own3 b lv6 fv6 x from DB.out)
              have AC := Aside0.mk ((AB.out.below HB11.out).grow HG12.out DB11.out)
              have ACd := Aside0.mk (AC.out.below (below_drew (Below.refl w12.heap.size w12)))
              have B12 := Aside0.mk (((B9.out.trans (BBt.out.mono HWB.out)).trans (HB11.out.mono (Nat.le_trans B9.out.size BBt.out.size))).trans (HB12.out.mono B9.out.size))
              have HDN := Aside0.mk (done_calls BB b e0 e1 e2 Y6 co6 lv6 fv6 a7 Y6.data.length 0 w12.drew ACd.out)
              have HEN := Aside0.mk (err_calls BB b e0 e1 e2 Y6 co6 lv6 fv6 a7 Y6.data.length 0 w12.drew ACd.out)
              have HTN := Aside0.mk (taken_calls BB b e0 e1 e2 Y6 co6 lv6 fv6 a7 Y6.data.length 0 w12.drew ACd.out)
              have HGN := Aside0.mk (given_calls BB b e0 e1 e2 Y6 co6 lv6 fv6 a7 Y6.data.length 0 w12.drew ACd.out)
              have HLN := Aside0.mk (left_calls BB b e0 e1 e2 Y6 co6 lv6 fv6 a7 Y6.data.length 0 w12.drew ACd.out)
              have HL9 := Aside0.mk (left9_calls Y6 Z0 Z1 Y6.data.length Y6.fields.length i0 i1 w12.drew)
              generalize hqn : (if Y6.place = 3 then (Y6.n : Int) else 0) = qn at *
              have HFB6 := Aside0.mk (show Y6.fields.length ≤ 1000 by
                have := run_dataLen (E := envM e0 e1 e2) TP 0 minit
                rw [HRN.out] at this
                simp [minit] at this
                have h2 : TP.length = T.length + p.length := by rw [← HTPE.out, List.length_append]
                omega)
              have HFN := Aside0.mk (fun W' (hb : Below w12.heap.size w12 W') => fields_calls BB b e0 e1 e2 Y6 co6 lv6 fv6 a7 Y6.data.length 0 W' (AC.out.below hb) (Nat.le_trans HFB6.out (by decide)))
              have hp11 : ¬ Y6.place = 11 := fun h => absurd (HPL.out.2 h) (by decide)
              have hpb : ((Y6.place : Int) == 11) = false := by rw [beq_eq_false_iff_ne]; omega
              rw [hpb] at HDN
              rw [if_neg hp11] at HFN
              clear hp11 hpb hqn
              refine wp_region_held_drew (S := (fun W => W.cell? ⟨bx, 0, none⟩ = some (Value.int .i64 (Y6.place : Int)) ∧ W.cell? ⟨bx, 1, none⟩ = some (Value.int .u64 (Y6.n : Int)) ∧ W.cell? ⟨bx, 2, none⟩ = some (Value.int .i64 (Y6.count : Int)) ∧ W.cell? ⟨bx, 3, none⟩ = some (Value.int .i64 (Y6.lines : Int)) ∧ W.cell? ⟨bx, 4, none⟩ = some (Value.int .i64 (Y6.size : Int)) ∧ W.cell? ⟨bx, 5, none⟩ = some (Value.string (strOfNums Y6.text)) ∧ W.cell? ⟨bx, 6, none⟩ = some (Value.slice Z0 Y6.data.length i0) ∧ W.cell? ⟨bx, 7, none⟩ = some (Value.slice Z1 Y6.fields.length i1) ∧ W.cell? ⟨bx, 8, none⟩ = some (Value.int .i64 (a7 : Int)) ∧ W.cell? ⟨bx, 9, none⟩ = some (Value.int .i64 4))) (by kernel_rfl) ?_ (fun hHeld => ?_)
              · exact ⟨(blk_cell (blk_drew HX12.out) 0).trans rfl, (blk_cell (blk_drew HX12.out) 1).trans rfl, (blk_cell (blk_drew HX12.out) 2).trans rfl, (blk_cell (blk_drew HX12.out) 3).trans rfl, (blk_cell (blk_drew HX12.out) 4).trans rfl, (blk_cell (blk_drew HX12.out) 5).trans rfl, (blk_cell (blk_drew HX12.out) 6).trans rfl, (blk_cell (blk_drew HX12.out) 7).trans rfl, (blk_cell (blk_drew HX12.out) 8).trans rfl, (blk_cell (blk_drew HX12.out) 9).trans rfl⟩
              refine take_at (i := 0) (take_d rfl) ?_
              intro h_i
              refine wpAnyH_take (v := ?_) h_i (by kernel_rfl) (by kernel_rfl) (by kernel_rfl) (fun _ _ _ h => h) (Or.inl ⟨by rfl, ?_⟩) (by assumption) ?_
              case refine_2 => (intro w hSw; (try dsimp only at hSw); go_simp; (try with_reducible rfl))
              clear h_i
              try simp only [Act.put, List.setIfInBounds_toArray, List.set_cons_zero, List.set_cons_succ]
              refine take_at (i := 2) (take_d rfl) ?_
              intro h_i
              refine wpAnyH_take (v := ?_) h_i (by kernel_rfl) (by kernel_rfl) (by kernel_rfl) (fun _ _ _ h => h) (Or.inl ⟨by rfl, ?_⟩) (by assumption) ?_
              case refine_2 => (intro w hSw; (try dsimp only at hSw); go_simp; (try with_reducible rfl))
              clear h_i
              try simp only [Act.put, List.setIfInBounds_toArray, List.set_cons_zero, List.set_cons_succ]
              refine take_at (i := 3) (take_d rfl) ?_
              intro h_i
              refine wpAnyH_take (v := ?_) h_i (by kernel_rfl) (by kernel_rfl) (by kernel_rfl) (fun _ _ _ h => h) (Or.inl ⟨by rfl, ?_⟩) (by assumption) ?_
              case refine_2 => (intro w hSw; (try dsimp only at hSw); go_simp; (try with_reducible rfl))
              clear h_i
              try simp only [Act.put, List.setIfInBounds_toArray, List.set_cons_zero, List.set_cons_succ]
              refine take_at (i := 4) (take_d rfl) ?_
              intro h_i
              refine wpAnyH_take (v := ?_) h_i (by kernel_rfl) (by kernel_rfl) (by kernel_rfl) (fun _ _ _ h => h) (Or.inl ⟨by rfl, ?_⟩) (by assumption) ?_
              case refine_2 => (intro w hSw; (try dsimp only at hSw); go_simp; (try with_reducible rfl))
              clear h_i
              try simp only [Act.put, List.setIfInBounds_toArray, List.set_cons_zero, List.set_cons_succ]
              refine wpAnyH_ready (rs := [1]) (by kernel_rfl) (by simp) ?_
              refine AllReadyH.cons (take_d rfl) (fun zK hK => ?_) AllReadyH.nil
              go_simp
              refine HDN.out.mono ?_
              rintro e wn ⟨rfl, rfl⟩
              go_wp2_with fail
              refine hK.out _ _ ?_ (fun hHeld2 => ?_)
              · exact ⟨(blk_cell (blk_drew HX12.out) 0).trans rfl, (blk_cell (blk_drew HX12.out) 1).trans rfl, (blk_cell (blk_drew HX12.out) 2).trans rfl, (blk_cell (blk_drew HX12.out) 3).trans rfl, (blk_cell (blk_drew HX12.out) 4).trans rfl, (blk_cell (blk_drew HX12.out) 5).trans rfl, (blk_cell (blk_drew HX12.out) 6).trans rfl, (blk_cell (blk_drew HX12.out) 7).trans rfl, (blk_cell (blk_drew HX12.out) 8).trans rfl, (blk_cell (blk_drew HX12.out) 9).trans rfl⟩
              clear hK zK hHeld
              have hHeld := hHeld2
              clear hHeld2
              try simp only [Act.put, List.setIfInBounds_toArray, List.set_cons_zero, List.set_cons_succ]
              refine take_at (i := 5) (take_d rfl) ?_
              intro h_i
              refine wpAnyH_take (v := ?_) h_i (by kernel_rfl) (by kernel_rfl) (by kernel_rfl) (fun _ _ _ h => h) (Or.inl ⟨by rfl, ?_⟩) (by assumption) ?_
              case refine_2 => (intro w hSw; (try dsimp only at hSw); go_simp; (try with_reducible rfl))
              clear h_i
              try simp only [Act.put, List.setIfInBounds_toArray, List.set_cons_zero, List.set_cons_succ]
              refine take_at (i := 6) (take_d rfl) ?_
              intro h_i
              refine wpAnyH_take (v := ?_) h_i (by kernel_rfl) (by kernel_rfl) (by kernel_rfl) (fun _ _ _ h => h) (Or.inl ⟨by rfl, ?_⟩) (by assumption) ?_
              case refine_2 => (intro w hSw; (try dsimp only at hSw); go_simp; (try with_reducible rfl))
              clear h_i
              try simp only [Act.put, List.setIfInBounds_toArray, List.set_cons_zero, List.set_cons_succ]
              refine take_at (i := 7) (take_d rfl) ?_
              intro h_i
              refine wpAnyH_take (v := ?_) h_i (by kernel_rfl) (by kernel_rfl) (by kernel_rfl) (fun _ _ _ h => h) (Or.inl ⟨by rfl, ?_⟩) (by assumption) ?_
              case refine_2 => (intro w hSw; (try dsimp only at hSw); go_simp; (try with_reducible rfl))
              clear h_i
              try simp only [Act.put, List.setIfInBounds_toArray, List.set_cons_zero, List.set_cons_succ]
              refine take_at (i := 9) (take_d rfl) ?_
              intro h_i
              refine wpAnyH_take (v := ?_) h_i (by kernel_rfl) (by kernel_rfl) (by kernel_rfl) (fun _ _ _ h => h) (Or.inl ⟨by rfl, ?_⟩) (by assumption) ?_
              case refine_2 => (intro w hSw; (try dsimp only at hSw); go_simp; (try with_reducible rfl))
              clear h_i
              try simp only [Act.put, List.setIfInBounds_toArray, List.set_cons_zero, List.set_cons_succ]
              refine wpAnyH_ready (rs := [8]) (by kernel_rfl) (by simp) ?_
              refine AllReadyH.cons (take_d rfl) (fun zK hK => ?_) AllReadyH.nil
              go_simp
              refine HEN.out.mono ?_
              rintro e wn ⟨rfl, rfl⟩
              go_wp2_with fail
              refine hK.out _ _ ?_ (fun hHeld2 => ?_)
              · exact ⟨(blk_cell (blk_drew HX12.out) 0).trans rfl, (blk_cell (blk_drew HX12.out) 1).trans rfl, (blk_cell (blk_drew HX12.out) 2).trans rfl, (blk_cell (blk_drew HX12.out) 3).trans rfl, (blk_cell (blk_drew HX12.out) 4).trans rfl, (blk_cell (blk_drew HX12.out) 5).trans rfl, (blk_cell (blk_drew HX12.out) 6).trans rfl, (blk_cell (blk_drew HX12.out) 7).trans rfl, (blk_cell (blk_drew HX12.out) 8).trans rfl, (blk_cell (blk_drew HX12.out) 9).trans rfl⟩
              clear hK zK hHeld
              have hHeld := hHeld2
              clear hHeld2
              try simp only [Act.put, List.setIfInBounds_toArray, List.set_cons_zero, List.set_cons_succ]
              refine take_at (i := 10) (take_d rfl) ?_
              intro h_i
              refine wpAnyH_take (v := ?_) h_i (by kernel_rfl) (by kernel_rfl) (by kernel_rfl) (fun _ _ _ h => h) (Or.inl ⟨by rfl, ?_⟩) (by assumption) ?_
              case refine_2 => (intro w hSw; (try dsimp only at hSw); go_simp; (try with_reducible rfl))
              clear h_i
              try simp only [Act.put, List.setIfInBounds_toArray, List.set_cons_zero, List.set_cons_succ]
              refine take_at (i := 11) (take_d rfl) ?_
              intro h_i
              refine wpAnyH_take (v := ?_) h_i (by kernel_rfl) (by kernel_rfl) (by kernel_rfl) (fun _ _ _ h => h) (Or.inl ⟨by rfl, ?_⟩) (by assumption) ?_
              case refine_2 => (intro w hSw; (try dsimp only at hSw); go_simp; (try with_reducible rfl))
              clear h_i
              try simp only [Act.put, List.setIfInBounds_toArray, List.set_cons_zero, List.set_cons_succ]
              refine take_at (i := 12) (take_d rfl) ?_
              intro h_i
              refine wpAnyH_take (v := ?_) h_i (by kernel_rfl) (by kernel_rfl) (by kernel_rfl) (fun _ _ _ h => h) (Or.inl ⟨by rfl, ?_⟩) (by assumption) ?_
              case refine_2 => (intro w hSw; (try dsimp only at hSw); go_simp; (try with_reducible rfl))
              clear h_i
              try simp only [Act.put, List.setIfInBounds_toArray, List.set_cons_zero, List.set_cons_succ]
              refine take_at (i := 13) (take_d rfl) ?_
              intro h_i
              refine wpAnyH_take (v := ?_) h_i (by kernel_rfl) (by kernel_rfl) (by kernel_rfl) (fun _ _ _ h => h) (Or.inl ⟨by rfl, ?_⟩) (by assumption) ?_
              case refine_2 => (intro w hSw; (try dsimp only at hSw); go_simp; (try with_reducible rfl))
              clear h_i
              try simp only [Act.put, List.setIfInBounds_toArray, List.set_cons_zero, List.set_cons_succ]
              refine take_at (i := 15) (take_d rfl) ?_
              intro h_i
              refine wpAnyH_take (v := ?_) h_i (by kernel_rfl) (by kernel_rfl) (by kernel_rfl) (fun _ _ _ h => h) (Or.inl ⟨by rfl, ?_⟩) (by assumption) ?_
              case refine_2 => (intro w hSw; (try dsimp only at hSw); go_simp; (try with_reducible rfl))
              clear h_i
              try simp only [Act.put, List.setIfInBounds_toArray, List.set_cons_zero, List.set_cons_succ]
              refine take_at (i := 16) (take_d rfl) ?_
              intro h_i
              refine wpAnyH_take (v := ?_) h_i (by kernel_rfl) (by kernel_rfl) (by kernel_rfl) (fun _ _ _ h => h) (Or.inl ⟨by rfl, ?_⟩) (by assumption) ?_
              case refine_2 => (intro w hSw; (try dsimp only at hSw); go_simp; (try with_reducible rfl))
              clear h_i
              try simp only [Act.put, List.setIfInBounds_toArray, List.set_cons_zero, List.set_cons_succ]
              refine wpAnyH_ready (rs := [14]) (by kernel_rfl) (by simp) ?_
              refine AllReadyH.cons (take_d rfl) (fun zK hK => ?_) AllReadyH.nil
              go_simp
              refine HTN.out.mono ?_
              rintro e wn ⟨rfl, rfl⟩
              go_wp2_with fail
              refine hK.out _ _ ?_ (fun hHeld2 => ?_)
              · exact ⟨(blk_cell (blk_drew HX12.out) 0).trans rfl, (blk_cell (blk_drew HX12.out) 1).trans rfl, (blk_cell (blk_drew HX12.out) 2).trans rfl, (blk_cell (blk_drew HX12.out) 3).trans rfl, (blk_cell (blk_drew HX12.out) 4).trans rfl, (blk_cell (blk_drew HX12.out) 5).trans rfl, (blk_cell (blk_drew HX12.out) 6).trans rfl, (blk_cell (blk_drew HX12.out) 7).trans rfl, (blk_cell (blk_drew HX12.out) 8).trans rfl, (blk_cell (blk_drew HX12.out) 9).trans rfl⟩
              clear hK zK hHeld
              have hHeld := hHeld2
              clear hHeld2
              try simp only [Act.put, List.setIfInBounds_toArray, List.set_cons_zero, List.set_cons_succ]
              refine take_at (i := 17) (take_d rfl) ?_
              intro h_i
              refine wpAnyH_take (v := ?_) h_i (by kernel_rfl) (by kernel_rfl) (by kernel_rfl) (fun _ _ _ h => h) (Or.inl ⟨by rfl, ?_⟩) (by assumption) ?_
              case refine_2 => (intro w hSw; (try dsimp only at hSw); go_simp; (try with_reducible rfl))
              clear h_i
              try simp only [Act.put, List.setIfInBounds_toArray, List.set_cons_zero, List.set_cons_succ]
              refine take_at (i := 18) (take_d rfl) ?_
              intro h_i
              refine wpAnyH_take (v := ?_) h_i (by kernel_rfl) (by kernel_rfl) (by kernel_rfl) (fun _ _ _ h => h) (Or.inl ⟨by rfl, ?_⟩) (by assumption) ?_
              case refine_2 => (intro w hSw; (try dsimp only at hSw); go_simp; (try with_reducible rfl))
              clear h_i
              try simp only [Act.put, List.setIfInBounds_toArray, List.set_cons_zero, List.set_cons_succ]
              refine take_at (i := 19) (take_d rfl) ?_
              intro h_i
              refine wpAnyH_take (v := ?_) h_i (by kernel_rfl) (by kernel_rfl) (by kernel_rfl) (fun _ _ _ h => h) (Or.inl ⟨by rfl, ?_⟩) (by assumption) ?_
              case refine_2 => (intro w hSw; (try dsimp only at hSw); go_simp; (try with_reducible rfl))
              clear h_i
              try simp only [Act.put, List.setIfInBounds_toArray, List.set_cons_zero, List.set_cons_succ]
              refine take_at (i := 20) (take_d rfl) ?_
              intro h_i
              refine wpAnyH_take (v := ?_) h_i (by kernel_rfl) (by kernel_rfl) (by kernel_rfl) (fun _ _ _ h => h) (Or.inl ⟨by rfl, ?_⟩) (by assumption) ?_
              case refine_2 => (intro w hSw; (try dsimp only at hSw); go_simp; (try with_reducible rfl))
              clear h_i
              try simp only [Act.put, List.setIfInBounds_toArray, List.set_cons_zero, List.set_cons_succ]
              refine take_at (i := 22) (take_d rfl) ?_
              intro h_i
              refine wpAnyH_take (v := ?_) h_i (by kernel_rfl) (by kernel_rfl) (by kernel_rfl) (fun _ _ _ h => h) (Or.inl ⟨by rfl, ?_⟩) (by assumption) ?_
              case refine_2 => (intro w hSw; (try dsimp only at hSw); go_simp; (try with_reducible rfl))
              clear h_i
              try simp only [Act.put, List.setIfInBounds_toArray, List.set_cons_zero, List.set_cons_succ]
              refine wpAnyH_ready (rs := [21]) (by kernel_rfl) (by simp) ?_
              refine AllReadyH.cons (take_d rfl) (fun zK hK => ?_) AllReadyH.nil
              go_simp
              refine HGN.out.mono ?_
              rintro e wn ⟨rfl, rfl⟩
              go_wp2_with fail
              refine hK.out _ _ ?_ (fun hHeld2 => ?_)
              · exact ⟨(blk_cell (blk_drew HX12.out) 0).trans rfl, (blk_cell (blk_drew HX12.out) 1).trans rfl, (blk_cell (blk_drew HX12.out) 2).trans rfl, (blk_cell (blk_drew HX12.out) 3).trans rfl, (blk_cell (blk_drew HX12.out) 4).trans rfl, (blk_cell (blk_drew HX12.out) 5).trans rfl, (blk_cell (blk_drew HX12.out) 6).trans rfl, (blk_cell (blk_drew HX12.out) 7).trans rfl, (blk_cell (blk_drew HX12.out) 8).trans rfl, (blk_cell (blk_drew HX12.out) 9).trans rfl⟩
              clear hK zK hHeld
              have hHeld := hHeld2
              clear hHeld2
              try simp only [Act.put, List.setIfInBounds_toArray, List.set_cons_zero, List.set_cons_succ]
              refine take_at (i := 23) (take_d rfl) ?_
              intro h_i
              refine wpAnyH_take (v := ?_) h_i (by kernel_rfl) (by kernel_rfl) (by kernel_rfl) (fun _ _ _ h => h) (Or.inl ⟨by rfl, ?_⟩) (by assumption) ?_
              case refine_2 => (intro w hSw; (try dsimp only at hSw); go_simp; (try with_reducible rfl))
              clear h_i
              try simp only [Act.put, List.setIfInBounds_toArray, List.set_cons_zero, List.set_cons_succ]
              refine take_at (i := 24) (take_d rfl) ?_
              intro h_i
              refine wpAnyH_take (v := ?_) h_i (by kernel_rfl) (by kernel_rfl) (by kernel_rfl) (fun _ _ _ h => h) (Or.inl ⟨by rfl, ?_⟩) (by assumption) ?_
              case refine_2 => (intro w hSw; (try dsimp only at hSw); go_simp; (try with_reducible rfl))
              clear h_i
              try simp only [Act.put, List.setIfInBounds_toArray, List.set_cons_zero, List.set_cons_succ]
              refine take_at (i := 25) (take_d rfl) ?_
              intro h_i
              refine wpAnyH_take (v := ?_) h_i (by kernel_rfl) (by kernel_rfl) (by kernel_rfl) (fun _ _ _ h => h) (Or.inl ⟨by rfl, ?_⟩) (by assumption) ?_
              case refine_2 => (intro w hSw; (try dsimp only at hSw); go_simp; (try with_reducible rfl))
              clear h_i
              try simp only [Act.put, List.setIfInBounds_toArray, List.set_cons_zero, List.set_cons_succ]
              refine take_at (i := 26) (take_d rfl) ?_
              intro h_i
              refine wpAnyH_take (v := ?_) h_i (by kernel_rfl) (by kernel_rfl) (by kernel_rfl) (fun _ _ _ h => h) (Or.inl ⟨by rfl, ?_⟩) (by assumption) ?_
              case refine_2 => (intro w hSw; (try dsimp only at hSw); go_simp; (try with_reducible rfl))
              clear h_i
              try simp only [Act.put, List.setIfInBounds_toArray, List.set_cons_zero, List.set_cons_succ]
              refine take_at (i := 28) (take_d rfl) ?_
              intro h_i
              refine wpAnyH_take (v := ?_) h_i (by kernel_rfl) (by kernel_rfl) (by kernel_rfl) (fun _ _ _ h => h) (Or.inl ⟨by rfl, ?_⟩) (by assumption) ?_
              case refine_2 => (intro w hSw; (try dsimp only at hSw); go_simp; (try with_reducible rfl))
              clear h_i
              try simp only [Act.put, List.setIfInBounds_toArray, List.set_cons_zero, List.set_cons_succ]
              refine take_at (i := 29) (take_d rfl) ?_
              intro h_i
              refine wpAnyH_take (v := ?_) h_i (by kernel_rfl) (by kernel_rfl) (by kernel_rfl) (fun _ _ _ h => h) (Or.inl ⟨by rfl, ?_⟩) (by assumption) ?_
              case refine_2 => (intro w hSw; (try dsimp only at hSw); go_simp; (try with_reducible rfl))
              clear h_i
              try simp only [Act.put, List.setIfInBounds_toArray, List.set_cons_zero, List.set_cons_succ]
              refine wpAnyH_ready (rs := [27]) (by kernel_rfl) (by simp) ?_
              refine AllReadyH.cons (take_d rfl) (fun zK hK => ?_) AllReadyH.nil
              go_simp
              refine HLN.out.mono ?_
              rintro e wn ⟨rfl, rfl⟩
              go_wp2_with fail
              refine hK.out _ _ ?_ (fun hHeld2 => ?_)
              · exact ⟨(blk_cell (blk_drew HX12.out) 0).trans rfl, (blk_cell (blk_drew HX12.out) 1).trans rfl, (blk_cell (blk_drew HX12.out) 2).trans rfl, (blk_cell (blk_drew HX12.out) 3).trans rfl, (blk_cell (blk_drew HX12.out) 4).trans rfl, (blk_cell (blk_drew HX12.out) 5).trans rfl, (blk_cell (blk_drew HX12.out) 6).trans rfl, (blk_cell (blk_drew HX12.out) 7).trans rfl, (blk_cell (blk_drew HX12.out) 8).trans rfl, (blk_cell (blk_drew HX12.out) 9).trans rfl⟩
              clear hK zK hHeld
              have hHeld := hHeld2
              clear hHeld2
              try simp only [Act.put, List.setIfInBounds_toArray, List.set_cons_zero, List.set_cons_succ]
              refine wpAnyH_ready (rs := [30]) (by kernel_rfl) (by simp) ?_
              refine AllReadyH.cons (take_d rfl) (fun zK hK => ?_) AllReadyH.nil
              go_simp
              refine HL9.out.mono ?_
              rintro e w13 ⟨rfl, hb13⟩
              have HB13 := Aside0.mk ((below_drew (Below.refl w12.heap.size w12)).trans hb13)
              clear hb13
              go_wp2_with fail
              refine hK.out _ _ ?_ (fun hHeld2 => ?_)
              · exact ⟨(blk_cell (blk_below HX12.out HB13.out) 0).trans rfl, (blk_cell (blk_below HX12.out HB13.out) 1).trans rfl, (blk_cell (blk_below HX12.out HB13.out) 2).trans rfl, (blk_cell (blk_below HX12.out HB13.out) 3).trans rfl, (blk_cell (blk_below HX12.out HB13.out) 4).trans rfl, (blk_cell (blk_below HX12.out HB13.out) 5).trans rfl, (blk_cell (blk_below HX12.out HB13.out) 6).trans rfl, (blk_cell (blk_below HX12.out HB13.out) 7).trans rfl, (blk_cell (blk_below HX12.out HB13.out) 8).trans rfl, (blk_cell (blk_below HX12.out HB13.out) 9).trans rfl⟩
              clear hK zK hHeld
              have hHeld := hHeld2
              clear hHeld2
              try simp only [Act.put, List.setIfInBounds_toArray, List.set_cons_zero, List.set_cons_succ]
              refine take_at (i := 31) (take_d rfl) ?_
              intro h_i
              refine wpAnyH_take (v := ?_) h_i (by kernel_rfl) (by kernel_rfl) (by kernel_rfl) (fun _ _ _ h => h) (Or.inl ⟨by rfl, ?_⟩) (by assumption) ?_
              case refine_2 => (intro w hSw; (try dsimp only at hSw); go_simp; (try with_reducible rfl))
              clear h_i
              try simp only [Act.put, List.setIfInBounds_toArray, List.set_cons_zero, List.set_cons_succ]
              refine take_at (i := 32) (take_d rfl) ?_
              intro h_i
              refine wpAnyH_take (v := ?_) h_i (by kernel_rfl) (by kernel_rfl) (by kernel_rfl) (fun _ _ _ h => h) (Or.inl ⟨by rfl, ?_⟩) (by assumption) ?_
              case refine_2 => (intro w hSw; (try dsimp only at hSw); go_simp; (try with_reducible rfl))
              clear h_i
              try simp only [Act.put, List.setIfInBounds_toArray, List.set_cons_zero, List.set_cons_succ]
              refine take_at (i := 33) (take_d rfl) ?_
              intro h_i
              refine wpAnyH_take (v := ?_) h_i (by kernel_rfl) (by kernel_rfl) (by kernel_rfl) (fun _ _ _ h => h) (Or.inl ⟨by rfl, ?_⟩) (by assumption) ?_
              case refine_2 => (intro w hSw; (try dsimp only at hSw); go_simp; (try with_reducible rfl))
              clear h_i
              try simp only [Act.put, List.setIfInBounds_toArray, List.set_cons_zero, List.set_cons_succ]
              refine take_at (i := 34) (take_d rfl) ?_
              intro h_i
              refine wpAnyH_take (v := ?_) h_i (by kernel_rfl) (by kernel_rfl) (by kernel_rfl) (fun _ _ _ h => h) (Or.inl ⟨by rfl, ?_⟩) (by assumption) ?_
              case refine_2 => (intro w hSw; (try dsimp only at hSw); go_simp; (try with_reducible rfl))
              clear h_i
              try simp only [Act.put, List.setIfInBounds_toArray, List.set_cons_zero, List.set_cons_succ]
              refine take_at (i := 36) (take_d rfl) ?_
              intro h_i
              refine wpAnyH_take (v := ?_) h_i (by kernel_rfl) (by kernel_rfl) (by kernel_rfl) (fun _ _ _ h => h) (Or.inl ⟨by rfl, ?_⟩) (by assumption) ?_
              case refine_2 => (intro w hSw; (try dsimp only at hSw); go_simp; (try with_reducible rfl))
              clear h_i
              try simp only [Act.put, List.setIfInBounds_toArray, List.set_cons_zero, List.set_cons_succ]
              refine wpAnyH_ready (rs := [35]) (by kernel_rfl) (by simp) ?_
              refine AllReadyH.cons (take_d rfl) (fun zK hK => ?_) AllReadyH.nil
              go_simp
              refine (HFN.out _ HB13.out).mono ?_
              rintro e w14 ⟨F14, d14, rfl, hd14, hC14, hb14⟩
              have HB14 := Aside0.mk (HB13.out.trans (hb14.mono HB13.out.size))
              have HF14 := Aside0.mk (And.intro hd14 hC14)
              clear hb14 hd14 hC14
              go_wp2_with fail
              refine hK.out _ _ ?_ (fun hHeld2 => ?_)
              · exact ⟨(blk_cell (blk_below HX12.out HB14.out) 0).trans rfl, (blk_cell (blk_below HX12.out HB14.out) 1).trans rfl, (blk_cell (blk_below HX12.out HB14.out) 2).trans rfl, (blk_cell (blk_below HX12.out HB14.out) 3).trans rfl, (blk_cell (blk_below HX12.out HB14.out) 4).trans rfl, (blk_cell (blk_below HX12.out HB14.out) 5).trans rfl, (blk_cell (blk_below HX12.out HB14.out) 6).trans rfl, (blk_cell (blk_below HX12.out HB14.out) 7).trans rfl, (blk_cell (blk_below HX12.out HB14.out) 8).trans rfl, (blk_cell (blk_below HX12.out HB14.out) 9).trans rfl⟩
              clear hK zK hHeld
              have hHeld := hHeld2
              clear hHeld2
              try simp only [Act.put, List.setIfInBounds_toArray, List.set_cons_zero, List.set_cons_succ]
              refine wpAnyH_ready (rs := [37]) (by kernel_rfl) (by simp) ?_
              refine AllReadyH.cons (take_d rfl) (fun zK hK => ?_) AllReadyH.nil
              go_simp
              refine (catchpitref05_Fields.calls 1000001 F14 d14 ([] : List Fld) none 0 [] true w14 HF14.out.2 HF14.out.1 ⟨rfl, Nat.zero_le _, fun h => absurd h (Nat.lt_irrefl _)⟩ (Nat.zero_le _) (HG.out _ (B12.out.trans (HB14.out.mono B12.out.size))) (FieldsM_eq _ (by simp) _ (by simp))).mono ?_
              rintro e w15 ⟨rfl, hd15⟩
              have HB15 := Aside0.mk (HB14.out.trans (hd15.below.mono HB14.out.size))
              clear hd15
              go_wp2_with fail
              refine hK.out _ _ ?_ (fun hHeld2 => ?_)
              · exact ⟨(blk_cell (blk_below HX12.out HB15.out) 0).trans rfl, (blk_cell (blk_below HX12.out HB15.out) 1).trans rfl, (blk_cell (blk_below HX12.out HB15.out) 2).trans rfl, (blk_cell (blk_below HX12.out HB15.out) 3).trans rfl, (blk_cell (blk_below HX12.out HB15.out) 4).trans rfl, (blk_cell (blk_below HX12.out HB15.out) 5).trans rfl, (blk_cell (blk_below HX12.out HB15.out) 6).trans rfl, (blk_cell (blk_below HX12.out HB15.out) 7).trans rfl, (blk_cell (blk_below HX12.out HB15.out) 8).trans rfl, (blk_cell (blk_below HX12.out HB15.out) 9).trans rfl⟩
              clear hK zK hHeld
              have hHeld := hHeld2
              clear hHeld2
              try simp only [Act.put, List.setIfInBounds_toArray, List.set_cons_zero, List.set_cons_succ]
              refine take_at (i := 38) (take_d rfl) ?_
              intro h_i
              refine wpAnyH_take (v := ?_) h_i (by kernel_rfl) (by kernel_rfl) (by kernel_rfl) (fun _ _ _ h => h) (Or.inl ⟨by rfl, ?_⟩) (by assumption) ?_
              case refine_2 => (intro w hSw; (try dsimp only at hSw); go_simp; (try with_reducible rfl))
              clear h_i
              try simp only [Act.put, List.setIfInBounds_toArray, List.set_cons_zero, List.set_cons_succ]
              refine take_at (i := 39) (take_d rfl) ?_
              intro h_i
              refine wpAnyH_take (v := ?_) h_i (by kernel_rfl) (by kernel_rfl) (by kernel_rfl) (fun _ _ _ h => h) (Or.inl ⟨by rfl, ?_⟩) (by assumption) ?_
              case refine_2 => (intro w hSw; (try dsimp only at hSw); go_simp; (try with_reducible rfl))
              clear h_i
              try simp only [Act.put, List.setIfInBounds_toArray, List.set_cons_zero, List.set_cons_succ]
              refine wpAnyH_done (by kernel_rfl) ?_ _
              go_wp2_with fail
              go_roundw
              case rel =>
                have hk1 := HK1.out
                refine ⟨k1, a7, Y6, 4, co6, .slice A12 a7 c12, lv6, fv6, Z0, Z1, i0, i1, rfl, rfl, rfl, by omega, ⟨⟨?_, ?_, ?_, ?_, ?_, blk_below HX12.out HB15.out, ?_, ?_, ?_, ?_, HZ.out.1, HZ.out.2.1, ?_⟩⟩⟩
                · rw [HED.out]
                  exact AC.out.below HB15.out
                · exact ((MB.out.trans (Moves.of_below HB11.out)).grow HG12.out (fun x hx => (RB.out.at x hx).1)).trans (Moves.of_below HB15.out)
                · exact ((BBt.out.trans (HB11.out.mono (Nat.le_trans HS9.out BBt.out.size))).trans (HB12.out.mono HS9.out)).trans (HB15.out.mono (Nat.le_trans (Nat.le_trans HS9.out BBt.out.size) HL12.out))
                · rw [HFL.out, ← HA7.out, take_app9, HA7.out]
                  exact (HR12.out.moves (Moves.of_below (S := fun _ => False) HB15.out) (fun _ _ h => h)).1
                · intro x hx hs
                  rcases HT12.out x hx with h | h
                  · exact DB.out x h hs
                  · have := AB.out.own_lt hs
                    have := HB11.out.size
                    omega
                · rw [HFL.out, HTPE.out]
                  exact HRN.out
                · refine fun _ => ⟨HCO6.out (by first | rfl | trivial), fun h => absurd (HPL.out.2 h) (by decide), ?_, ?_⟩
                  · have h1 := invN_run p 0 T.length Y Y6 a6 HI.out HBP.out HRN6.out
                    have h2 := HF4.out (by first | rfl | trivial)
                    rw [← HA7.out, h2, Nat.zero_add]
                    exact h1
                  · have h2 := HF4.out (by first | rfl | trivial)
                    rw [HFL.out, List.length_append, ← HA7.out]
                    omega
                · rw [HFL.out, List.length_append]
                  have := HA7.out
                  omega
                · have := HA7.out
                  rw [HD6.out, List.length_append]
                  omega
                · exact fun h => absurd rfl h
              case measure =>
                have hk1 := HK1.out
                simp [intOf]
                omega
            · have hed : errD er6 = er6 := if_neg h64
              rw [hed] at AB
              rw [hed]
              have HED := Aside0.mk hed
              clear hed
              by_cases h60 : er6 = 0
              · subst h60
                clear h64
                have hx := XB.out
                have xk0 : wB.cell? ⟨bx, 0, none⟩ = some (Value.int .i64 (Y6.place : Int)) := (blk_cell hx 0).trans rfl
                have xk1 : wB.cell? ⟨bx, 1, none⟩ = some (Value.int .u64 (Y6.n : Int)) := (blk_cell hx 1).trans rfl
                have xk2 : wB.cell? ⟨bx, 2, none⟩ = some (Value.int .i64 (Y6.count : Int)) := (blk_cell hx 2).trans rfl
                have xk3 : wB.cell? ⟨bx, 3, none⟩ = some (Value.int .i64 (Y6.lines : Int)) := (blk_cell hx 3).trans rfl
                have xk4 : wB.cell? ⟨bx, 4, none⟩ = some (Value.int .i64 (Y6.size : Int)) := (blk_cell hx 4).trans rfl
                have xk5 : wB.cell? ⟨bx, 5, none⟩ = some (Value.string (strOfNums Y6.text)) := (blk_cell hx 5).trans rfl
                have xk6 : wB.cell? ⟨bx, 6, none⟩ = some (Value.slice Z0 Y6.data.length i0) := (blk_cell hx 6).trans rfl
                have xk7 : wB.cell? ⟨bx, 7, none⟩ = some (Value.slice Z1 Y6.fields.length i1) := (blk_cell hx 7).trans rfl
                have xk8 : wB.cell? ⟨bx, 8, none⟩ = some (Value.int .i64 (a7 : Int)) := (blk_cell hx 8).trans rfl
                have xk9 : wB.cell? ⟨bx, 9, none⟩ = some (Value.int .i64 0) := (blk_cell hx 9).trans rfl
                have kw9 := HW9.out
                have hwa : IntKind.i64.wrap ((a7 : Int) - (T.length : Int)) = (a6 : Int) := by
                  have := HA7.out
                  unfold IntKind.wrap
                  simp [IntKind.bits, IntKind.signed]
                  omega
                have hdl6 : Y.data.length + out6.length = Y6.data.length := by rw [HD6.out, List.length_append]
                obtain ⟨Zm, im, hcf, hcm⟩ : ∃ Zm im, (∀ W : World, (Instr.slice 24 (.slice Z0 Y6.data.length i0) (some (.int .i64 (Y.data.length : Int))) none none).run Tryd.prog W = .ok (.slice Zm out6.length im) W) ∧ Aside0 (out6.length ≤ im ∧ Kd.C (Kd.int .u8) wB Zm out6.length out6) := by
                  have hq : (Tryd.prog.info? 5).map (fun i => i.size) = some 1 := by kernel_rfl
                  obtain ⟨i9, hi9, hsz9⟩ := Option.map_eq_some_iff.1 hq
                  have h1 := cut_from (P := Tryd.prog) 24 5 .i64 Tryd.underlying24 hi9 1 hsz9 Z0 Y6.data.length i0 (Y.data.length : Int) (by omega) (by omega)
                  rw [Int.toNat_natCast] at h1
                  have h2 := Kd.C_drop (m := Y.data.length) C0.out (by omega) HZ.out.1
                  have h3 : Y6.data.drop Y.data.length = out6 := by rw [HD6.out, List.drop_left]
                  rw [h3, show (Kd.int .u8).sz = 1 from rfl] at h2
                  refine ⟨_, i0 - Y.data.length, fun W => ?_, ⟨by have := HZ.out.1; omega, h2⟩⟩
                  rw [h1 W, show Y6.data.length - Y.data.length = out6.length by omega]
                have hq0 : (Tryd.prog.info? 5).map (fun i => i.size) = some 1 := by kernel_rfl
                obtain ⟨i8, hi8, hsz8⟩ := Option.map_eq_some_iff.1 hq0
                have hct := cut_to (P := Tryd.prog) 24 5 .i64 Tryd.underlying24 hi8 Ap p.length cp (a6 : Int) (by omega) (by omega) hle
                rw [Int.toNat_natCast] at hct
                have HSM := Aside0.mk (catchpitref08_Same.calls 1000001 A6 c6 out6 Zm im out6 true wB OB.out HC6.out.1 hcm.out.2 hcm.out.1 (HG.out _ (B9.out.trans (BBt.out.mono HWB.out))) (by rw [Same8_eq _ _ (by omega) _ (by omega), decide_eq_true rfl]))
                have hml : (p.take a6).length = a6 := by rw [List.length_take]; omega
                clear hx hq0 hi8 hsz8 hdl6
                go_wp2_with fail
                refine HSM.out.mono ?_
                rintro e w11 ⟨rfl, hd11⟩
                have HB11 := Aside0.mk hd11.below
                clear hd11 HSM hcf xk0 xk1 xk2 xk3 xk4 xk5 xk6 xk7 xk8 xk9 kw9
                have hx := blk_below XB.out HB11.out
                have xk0 : w11.cell? ⟨bx, 0, none⟩ = some (Value.int .i64 (Y6.place : Int)) := (blk_cell hx 0).trans rfl
                have xk1 : w11.cell? ⟨bx, 1, none⟩ = some (Value.int .u64 (Y6.n : Int)) := (blk_cell hx 1).trans rfl
                have xk2 : w11.cell? ⟨bx, 2, none⟩ = some (Value.int .i64 (Y6.count : Int)) := (blk_cell hx 2).trans rfl
                have xk3 : w11.cell? ⟨bx, 3, none⟩ = some (Value.int .i64 (Y6.lines : Int)) := (blk_cell hx 3).trans rfl
                have xk4 : w11.cell? ⟨bx, 4, none⟩ = some (Value.int .i64 (Y6.size : Int)) := (blk_cell hx 4).trans rfl
                have xk5 : w11.cell? ⟨bx, 5, none⟩ = some (Value.string (strOfNums Y6.text)) := (blk_cell hx 5).trans rfl
                have xk6 : w11.cell? ⟨bx, 6, none⟩ = some (Value.slice Z0 Y6.data.length i0) := (blk_cell hx 6).trans rfl
                have xk7 : w11.cell? ⟨bx, 7, none⟩ = some (Value.slice Z1 Y6.fields.length i1) := (blk_cell hx 7).trans rfl
                have xk8 : w11.cell? ⟨bx, 8, none⟩ = some (Value.int .i64 (a7 : Int)) := (blk_cell hx 8).trans rfl
                have xk9 : w11.cell? ⟨bx, 9, none⟩ = some (Value.int .i64 0) := (blk_cell hx 9).trans rfl
                clear hx
                have RB1 := Aside0.mk (show RowD w11 w9.heap.size (.slice Ao T.length cO) T by
                  have := (RB.out.moves (Moves.of_below (S := fun _ => False) HB11.out) (fun _ _ h => h)).1
                  rwa [HTT.out] at this)
                have HPT := Aside0.mk (Kd.C_take (m := a6) (HPW.out w11 ((B9.out.trans (BBt.out.mono HWB.out)).trans (HB11.out.mono (Nat.le_trans B9.out.size BBt.out.size)))) (by omega))
                have hw911 : w9.heap.size ≤ w11.heap.size := Nat.le_trans MB.out.sz HB11.out.size
                have hlo : T.length + (p.take a6).length ≤ 140737488355328 := by omega
                have HML := Aside0.mk hml
                clear hml
                go_wp2_with ((with_reducible refine gate_builtin (b := .append) (xs := #[.tmp 120, .tmp 123]) rfl ?_); at_builtin; refine list_plusD w9.heap.size rfl (.tmp 120) (.tmp 123) 24 (.int .u8 0) rfl Tryd.underlying24 info5 rfl (.slice Ao T.length cO) T (p.take a6) Ap cp rfl (by rw [HML.out]; rfl) RB1.out HPT.out hw911 hlo ?_; intro v12 w12 hr12 hb12 hg12 hat12; obtain ⟨A12, c12, q12, _, _⟩ := hr12.reads; rw [show (T ++ p.take a6).length = a7 from by rw [List.length_append, HML.out]; exact HA7.out] at q12; subst q12; have HR12 := Aside0.mk hr12; have HB12 := Aside0.mk hb12; have HG12 := Aside0.mk hg12; have HT12 := Aside0.mk hat12; have hx12 := (hg12.block bx (Nat.lt_of_lt_of_le (blk_lt XB.out) HB11.out.size) (fun e => RB1.out.not_got (blk_below XB.out HB11.out) e.symm)).trans (blk_below XB.out HB11.out); have HX12 := Aside0.mk hx12; clear xk0 xk1 xk2 xk3 xk4 xk5 xk6 xk7 xk8 xk9; have xk0 : w12.cell? ⟨bx, 0, none⟩ = some (Value.int .i64 (Y6.place : Int)) := (blk_cell hx12 0).trans rfl; have xk1 : w12.cell? ⟨bx, 1, none⟩ = some (Value.int .u64 (Y6.n : Int)) := (blk_cell hx12 1).trans rfl; have xk2 : w12.cell? ⟨bx, 2, none⟩ = some (Value.int .i64 (Y6.count : Int)) := (blk_cell hx12 2).trans rfl; have xk3 : w12.cell? ⟨bx, 3, none⟩ = some (Value.int .i64 (Y6.lines : Int)) := (blk_cell hx12 3).trans rfl; have xk4 : w12.cell? ⟨bx, 4, none⟩ = some (Value.int .i64 (Y6.size : Int)) := (blk_cell hx12 4).trans rfl; have xk5 : w12.cell? ⟨bx, 5, none⟩ = some (Value.string (strOfNums Y6.text)) := (blk_cell hx12 5).trans rfl; have xk6 : w12.cell? ⟨bx, 6, none⟩ = some (Value.slice Z0 Y6.data.length i0) := (blk_cell hx12 6).trans rfl; have xk7 : w12.cell? ⟨bx, 7, none⟩ = some (Value.slice Z1 Y6.fields.length i1) := (blk_cell hx12 7).trans rfl; have xk8 : w12.cell? ⟨bx, 8, none⟩ = some (Value.int .i64 (a7 : Int)) := (blk_cell hx12 8).trans rfl; have xk9 : w12.cell? ⟨bx, 9, none⟩ = some (Value.int .i64 0) := (blk_cell hx12 9).trans rfl; clear hr12 hb12 hg12 hat12 hx12)
                have HL12 := Aside0.mk (show wB.heap.size ≤ w12.heap.size from Nat.le_trans HB11.out.size HG12.out.size)
                have DB11 := Aside0.mk (show ∀ x, (Value.slice Ao T.length cO).ownBlock = some x → ¬ Own3 b lv6 fv6 x from DB.out)
                have AC := Aside0.mk ((AB.out.below HB11.out).grow HG12.out DB11.out)
                have ACd := Aside0.mk (AC.out.below (below_drew (Below.refl w12.heap.size w12)))
                have B12 := Aside0.mk (((B9.out.trans (BBt.out.mono HWB.out)).trans (HB11.out.mono (Nat.le_trans B9.out.size BBt.out.size))).trans (HB12.out.mono B9.out.size))
                have HDN := Aside0.mk (done_calls BB b e0 e1 e2 Y6 co6 lv6 fv6 a7 Y6.data.length 0 w12.drew ACd.out)
                have HEN := Aside0.mk (err_calls BB b e0 e1 e2 Y6 co6 lv6 fv6 a7 Y6.data.length 0 w12.drew ACd.out)
                have HTN := Aside0.mk (taken_calls BB b e0 e1 e2 Y6 co6 lv6 fv6 a7 Y6.data.length 0 w12.drew ACd.out)
                have HGN := Aside0.mk (given_calls BB b e0 e1 e2 Y6 co6 lv6 fv6 a7 Y6.data.length 0 w12.drew ACd.out)
                have HLN := Aside0.mk (left_calls BB b e0 e1 e2 Y6 co6 lv6 fv6 a7 Y6.data.length 0 w12.drew ACd.out)
                have HL9 := Aside0.mk (left9_calls Y6 Z0 Z1 Y6.data.length Y6.fields.length i0 i1 w12.drew)
                generalize hqn : (if Y6.place = 3 then (Y6.n : Int) else 0) = qn at *
                have HFB6 := Aside0.mk (show Y6.fields.length ≤ 1000 by
                  have := run_dataLen (E := envM e0 e1 e2) TP 0 minit
                  rw [HRN.out] at this
                  simp [minit] at this
                  have h2 : TP.length = T.length + p.length := by rw [← HTPE.out, List.length_append]
                  omega)
                have HFN := Aside0.mk (fun W' (hb : Below w12.heap.size w12 W') => fields_calls BB b e0 e1 e2 Y6 co6 lv6 fv6 a7 Y6.data.length 0 W' (AC.out.below hb) (Nat.le_trans HFB6.out (by decide)))
                have hp11 : Y6.place = 11 := HPL.out.1 (by first | rfl | trivial)
                have hpb : ((Y6.place : Int) == 11) = true := by rw [beq_iff_eq]; omega
                rw [hpb] at HDN
                rw [if_pos hp11] at HFN
                have HFROW := Aside0.mk (show Kd.C k53 w12 Z1 Y6.fields.length Y6.fields from CF_moves (moves_grown HG12.out) (Kd.C_below CF.out HB11.out) (fun hp ad e h => by
                  have h1 := HFR.out ad e
                  obtain ⟨_, cs, hcs⟩ := HRW.out.1.at _ h
                  have := blk_lt hcs
                  have := HNA.out
                  omega))
                clear hp11 hpb hqn
                refine wp_region_held_drew (S := (fun W => W.cell? ⟨bx, 0, none⟩ = some (Value.int .i64 (Y6.place : Int)) ∧ W.cell? ⟨bx, 1, none⟩ = some (Value.int .u64 (Y6.n : Int)) ∧ W.cell? ⟨bx, 2, none⟩ = some (Value.int .i64 (Y6.count : Int)) ∧ W.cell? ⟨bx, 3, none⟩ = some (Value.int .i64 (Y6.lines : Int)) ∧ W.cell? ⟨bx, 4, none⟩ = some (Value.int .i64 (Y6.size : Int)) ∧ W.cell? ⟨bx, 5, none⟩ = some (Value.string (strOfNums Y6.text)) ∧ W.cell? ⟨bx, 6, none⟩ = some (Value.slice Z0 Y6.data.length i0) ∧ W.cell? ⟨bx, 7, none⟩ = some (Value.slice Z1 Y6.fields.length i1) ∧ W.cell? ⟨bx, 8, none⟩ = some (Value.int .i64 (a7 : Int)) ∧ W.cell? ⟨bx, 9, none⟩ = some (Value.int .i64 0))) (by kernel_rfl) ?_ (fun hHeld => ?_)
                · exact ⟨(blk_cell (blk_drew HX12.out) 0).trans rfl, (blk_cell (blk_drew HX12.out) 1).trans rfl, (blk_cell (blk_drew HX12.out) 2).trans rfl, (blk_cell (blk_drew HX12.out) 3).trans rfl, (blk_cell (blk_drew HX12.out) 4).trans rfl, (blk_cell (blk_drew HX12.out) 5).trans rfl, (blk_cell (blk_drew HX12.out) 6).trans rfl, (blk_cell (blk_drew HX12.out) 7).trans rfl, (blk_cell (blk_drew HX12.out) 8).trans rfl, (blk_cell (blk_drew HX12.out) 9).trans rfl⟩
                refine take_at (i := 0) (take_d rfl) ?_
                intro h_i
                refine wpAnyH_take (v := ?_) h_i (by kernel_rfl) (by kernel_rfl) (by kernel_rfl) (fun _ _ _ h => h) (Or.inl ⟨by rfl, ?_⟩) (by assumption) ?_
                case refine_2 => (intro w hSw; (try dsimp only at hSw); go_simp; (try with_reducible rfl))
                clear h_i
                try simp only [Act.put, List.setIfInBounds_toArray, List.set_cons_zero, List.set_cons_succ]
                refine take_at (i := 2) (take_d rfl) ?_
                intro h_i
                refine wpAnyH_take (v := ?_) h_i (by kernel_rfl) (by kernel_rfl) (by kernel_rfl) (fun _ _ _ h => h) (Or.inl ⟨by rfl, ?_⟩) (by assumption) ?_
                case refine_2 => (intro w hSw; (try dsimp only at hSw); go_simp; (try with_reducible rfl))
                clear h_i
                try simp only [Act.put, List.setIfInBounds_toArray, List.set_cons_zero, List.set_cons_succ]
                refine take_at (i := 3) (take_d rfl) ?_
                intro h_i
                refine wpAnyH_take (v := ?_) h_i (by kernel_rfl) (by kernel_rfl) (by kernel_rfl) (fun _ _ _ h => h) (Or.inl ⟨by rfl, ?_⟩) (by assumption) ?_
                case refine_2 => (intro w hSw; (try dsimp only at hSw); go_simp; (try with_reducible rfl))
                clear h_i
                try simp only [Act.put, List.setIfInBounds_toArray, List.set_cons_zero, List.set_cons_succ]
                refine take_at (i := 4) (take_d rfl) ?_
                intro h_i
                refine wpAnyH_take (v := ?_) h_i (by kernel_rfl) (by kernel_rfl) (by kernel_rfl) (fun _ _ _ h => h) (Or.inl ⟨by rfl, ?_⟩) (by assumption) ?_
                case refine_2 => (intro w hSw; (try dsimp only at hSw); go_simp; (try with_reducible rfl))
                clear h_i
                try simp only [Act.put, List.setIfInBounds_toArray, List.set_cons_zero, List.set_cons_succ]
                refine wpAnyH_ready (rs := [1]) (by kernel_rfl) (by simp) ?_
                refine AllReadyH.cons (take_d rfl) (fun zK hK => ?_) AllReadyH.nil
                go_simp
                refine HDN.out.mono ?_
                rintro e wn ⟨rfl, rfl⟩
                go_wp2_with fail
                refine hK.out _ _ ?_ (fun hHeld2 => ?_)
                · exact ⟨(blk_cell (blk_drew HX12.out) 0).trans rfl, (blk_cell (blk_drew HX12.out) 1).trans rfl, (blk_cell (blk_drew HX12.out) 2).trans rfl, (blk_cell (blk_drew HX12.out) 3).trans rfl, (blk_cell (blk_drew HX12.out) 4).trans rfl, (blk_cell (blk_drew HX12.out) 5).trans rfl, (blk_cell (blk_drew HX12.out) 6).trans rfl, (blk_cell (blk_drew HX12.out) 7).trans rfl, (blk_cell (blk_drew HX12.out) 8).trans rfl, (blk_cell (blk_drew HX12.out) 9).trans rfl⟩
                clear hK zK hHeld
                have hHeld := hHeld2
                clear hHeld2
                try simp only [Act.put, List.setIfInBounds_toArray, List.set_cons_zero, List.set_cons_succ]
                refine take_at (i := 5) (take_d rfl) ?_
                intro h_i
                refine wpAnyH_take (v := ?_) h_i (by kernel_rfl) (by kernel_rfl) (by kernel_rfl) (fun _ _ _ h => h) (Or.inl ⟨by rfl, ?_⟩) (by assumption) ?_
                case refine_2 => (intro w hSw; (try dsimp only at hSw); go_simp; (try with_reducible rfl))
                clear h_i
                try simp only [Act.put, List.setIfInBounds_toArray, List.set_cons_zero, List.set_cons_succ]
                refine take_at (i := 6) (take_d rfl) ?_
                intro h_i
                refine wpAnyH_take (v := ?_) h_i (by kernel_rfl) (by kernel_rfl) (by kernel_rfl) (fun _ _ _ h => h) (Or.inl ⟨by rfl, ?_⟩) (by assumption) ?_
                case refine_2 => (intro w hSw; (try dsimp only at hSw); go_simp; (try with_reducible rfl))
                clear h_i
                try simp only [Act.put, List.setIfInBounds_toArray, List.set_cons_zero, List.set_cons_succ]
                refine take_at (i := 7) (take_d rfl) ?_
                intro h_i
                refine wpAnyH_take (v := ?_) h_i (by kernel_rfl) (by kernel_rfl) (by kernel_rfl) (fun _ _ _ h => h) (Or.inl ⟨by rfl, ?_⟩) (by assumption) ?_
                case refine_2 => (intro w hSw; (try dsimp only at hSw); go_simp; (try with_reducible rfl))
                clear h_i
                try simp only [Act.put, List.setIfInBounds_toArray, List.set_cons_zero, List.set_cons_succ]
                refine take_at (i := 9) (take_d rfl) ?_
                intro h_i
                refine wpAnyH_take (v := ?_) h_i (by kernel_rfl) (by kernel_rfl) (by kernel_rfl) (fun _ _ _ h => h) (Or.inl ⟨by rfl, ?_⟩) (by assumption) ?_
                case refine_2 => (intro w hSw; (try dsimp only at hSw); go_simp; (try with_reducible rfl))
                clear h_i
                try simp only [Act.put, List.setIfInBounds_toArray, List.set_cons_zero, List.set_cons_succ]
                refine wpAnyH_ready (rs := [8]) (by kernel_rfl) (by simp) ?_
                refine AllReadyH.cons (take_d rfl) (fun zK hK => ?_) AllReadyH.nil
                go_simp
                refine HEN.out.mono ?_
                rintro e wn ⟨rfl, rfl⟩
                go_wp2_with fail
                refine hK.out _ _ ?_ (fun hHeld2 => ?_)
                · exact ⟨(blk_cell (blk_drew HX12.out) 0).trans rfl, (blk_cell (blk_drew HX12.out) 1).trans rfl, (blk_cell (blk_drew HX12.out) 2).trans rfl, (blk_cell (blk_drew HX12.out) 3).trans rfl, (blk_cell (blk_drew HX12.out) 4).trans rfl, (blk_cell (blk_drew HX12.out) 5).trans rfl, (blk_cell (blk_drew HX12.out) 6).trans rfl, (blk_cell (blk_drew HX12.out) 7).trans rfl, (blk_cell (blk_drew HX12.out) 8).trans rfl, (blk_cell (blk_drew HX12.out) 9).trans rfl⟩
                clear hK zK hHeld
                have hHeld := hHeld2
                clear hHeld2
                try simp only [Act.put, List.setIfInBounds_toArray, List.set_cons_zero, List.set_cons_succ]
                refine take_at (i := 10) (take_d rfl) ?_
                intro h_i
                refine wpAnyH_take (v := ?_) h_i (by kernel_rfl) (by kernel_rfl) (by kernel_rfl) (fun _ _ _ h => h) (Or.inl ⟨by rfl, ?_⟩) (by assumption) ?_
                case refine_2 => (intro w hSw; (try dsimp only at hSw); go_simp; (try with_reducible rfl))
                clear h_i
                try simp only [Act.put, List.setIfInBounds_toArray, List.set_cons_zero, List.set_cons_succ]
                refine take_at (i := 11) (take_d rfl) ?_
                intro h_i
                refine wpAnyH_take (v := ?_) h_i (by kernel_rfl) (by kernel_rfl) (by kernel_rfl) (fun _ _ _ h => h) (Or.inl ⟨by rfl, ?_⟩) (by assumption) ?_
                case refine_2 => (intro w hSw; (try dsimp only at hSw); go_simp; (try with_reducible rfl))
                clear h_i
                try simp only [Act.put, List.setIfInBounds_toArray, List.set_cons_zero, List.set_cons_succ]
                refine take_at (i := 12) (take_d rfl) ?_
                intro h_i
                refine wpAnyH_take (v := ?_) h_i (by kernel_rfl) (by kernel_rfl) (by kernel_rfl) (fun _ _ _ h => h) (Or.inl ⟨by rfl, ?_⟩) (by assumption) ?_
                case refine_2 => (intro w hSw; (try dsimp only at hSw); go_simp; (try with_reducible rfl))
                clear h_i
                try simp only [Act.put, List.setIfInBounds_toArray, List.set_cons_zero, List.set_cons_succ]
                refine take_at (i := 13) (take_d rfl) ?_
                intro h_i
                refine wpAnyH_take (v := ?_) h_i (by kernel_rfl) (by kernel_rfl) (by kernel_rfl) (fun _ _ _ h => h) (Or.inl ⟨by rfl, ?_⟩) (by assumption) ?_
                case refine_2 => (intro w hSw; (try dsimp only at hSw); go_simp; (try with_reducible rfl))
                clear h_i
                try simp only [Act.put, List.setIfInBounds_toArray, List.set_cons_zero, List.set_cons_succ]
                refine take_at (i := 15) (take_d rfl) ?_
                intro h_i
                refine wpAnyH_take (v := ?_) h_i (by kernel_rfl) (by kernel_rfl) (by kernel_rfl) (fun _ _ _ h => h) (Or.inl ⟨by rfl, ?_⟩) (by assumption) ?_
                case refine_2 => (intro w hSw; (try dsimp only at hSw); go_simp; (try with_reducible rfl))
                clear h_i
                try simp only [Act.put, List.setIfInBounds_toArray, List.set_cons_zero, List.set_cons_succ]
                refine take_at (i := 16) (take_d rfl) ?_
                intro h_i
                refine wpAnyH_take (v := ?_) h_i (by kernel_rfl) (by kernel_rfl) (by kernel_rfl) (fun _ _ _ h => h) (Or.inl ⟨by rfl, ?_⟩) (by assumption) ?_
                case refine_2 => (intro w hSw; (try dsimp only at hSw); go_simp; (try with_reducible rfl))
                clear h_i
                try simp only [Act.put, List.setIfInBounds_toArray, List.set_cons_zero, List.set_cons_succ]
                refine wpAnyH_ready (rs := [14]) (by kernel_rfl) (by simp) ?_
                refine AllReadyH.cons (take_d rfl) (fun zK hK => ?_) AllReadyH.nil
                go_simp
                refine HTN.out.mono ?_
                rintro e wn ⟨rfl, rfl⟩
                go_wp2_with fail
                refine hK.out _ _ ?_ (fun hHeld2 => ?_)
                · exact ⟨(blk_cell (blk_drew HX12.out) 0).trans rfl, (blk_cell (blk_drew HX12.out) 1).trans rfl, (blk_cell (blk_drew HX12.out) 2).trans rfl, (blk_cell (blk_drew HX12.out) 3).trans rfl, (blk_cell (blk_drew HX12.out) 4).trans rfl, (blk_cell (blk_drew HX12.out) 5).trans rfl, (blk_cell (blk_drew HX12.out) 6).trans rfl, (blk_cell (blk_drew HX12.out) 7).trans rfl, (blk_cell (blk_drew HX12.out) 8).trans rfl, (blk_cell (blk_drew HX12.out) 9).trans rfl⟩
                clear hK zK hHeld
                have hHeld := hHeld2
                clear hHeld2
                try simp only [Act.put, List.setIfInBounds_toArray, List.set_cons_zero, List.set_cons_succ]
                refine take_at (i := 17) (take_d rfl) ?_
                intro h_i
                refine wpAnyH_take (v := ?_) h_i (by kernel_rfl) (by kernel_rfl) (by kernel_rfl) (fun _ _ _ h => h) (Or.inl ⟨by rfl, ?_⟩) (by assumption) ?_
                case refine_2 => (intro w hSw; (try dsimp only at hSw); go_simp; (try with_reducible rfl))
                clear h_i
                try simp only [Act.put, List.setIfInBounds_toArray, List.set_cons_zero, List.set_cons_succ]
                refine take_at (i := 18) (take_d rfl) ?_
                intro h_i
                refine wpAnyH_take (v := ?_) h_i (by kernel_rfl) (by kernel_rfl) (by kernel_rfl) (fun _ _ _ h => h) (Or.inl ⟨by rfl, ?_⟩) (by assumption) ?_
                case refine_2 => (intro w hSw; (try dsimp only at hSw); go_simp; (try with_reducible rfl))
                clear h_i
                try simp only [Act.put, List.setIfInBounds_toArray, List.set_cons_zero, List.set_cons_succ]
                refine take_at (i := 19) (take_d rfl) ?_
                intro h_i
                refine wpAnyH_take (v := ?_) h_i (by kernel_rfl) (by kernel_rfl) (by kernel_rfl) (fun _ _ _ h => h) (Or.inl ⟨by rfl, ?_⟩) (by assumption) ?_
                case refine_2 => (intro w hSw; (try dsimp only at hSw); go_simp; (try with_reducible rfl))
                clear h_i
                try simp only [Act.put, List.setIfInBounds_toArray, List.set_cons_zero, List.set_cons_succ]
                refine take_at (i := 20) (take_d rfl) ?_
                intro h_i
                refine wpAnyH_take (v := ?_) h_i (by kernel_rfl) (by kernel_rfl) (by kernel_rfl) (fun _ _ _ h => h) (Or.inl ⟨by rfl, ?_⟩) (by assumption) ?_
                case refine_2 => (intro w hSw; (try dsimp only at hSw); go_simp; (try with_reducible rfl))
                clear h_i
                try simp only [Act.put, List.setIfInBounds_toArray, List.set_cons_zero, List.set_cons_succ]
                refine take_at (i := 22) (take_d rfl) ?_
                intro h_i
                refine wpAnyH_take (v := ?_) h_i (by kernel_rfl) (by kernel_rfl) (by kernel_rfl) (fun _ _ _ h => h) (Or.inl ⟨by rfl, ?_⟩) (by assumption) ?_
                case refine_2 => (intro w hSw; (try dsimp only at hSw); go_simp; (try with_reducible rfl))
                clear h_i
                try simp only [Act.put, List.setIfInBounds_toArray, List.set_cons_zero, List.set_cons_succ]
                refine wpAnyH_ready (rs := [21]) (by kernel_rfl) (by simp) ?_
                refine AllReadyH.cons (take_d rfl) (fun zK hK => ?_) AllReadyH.nil
                go_simp
                refine HGN.out.mono ?_
                rintro e wn ⟨rfl, rfl⟩
                go_wp2_with fail
                refine hK.out _ _ ?_ (fun hHeld2 => ?_)
                · exact ⟨(blk_cell (blk_drew HX12.out) 0).trans rfl, (blk_cell (blk_drew HX12.out) 1).trans rfl, (blk_cell (blk_drew HX12.out) 2).trans rfl, (blk_cell (blk_drew HX12.out) 3).trans rfl, (blk_cell (blk_drew HX12.out) 4).trans rfl, (blk_cell (blk_drew HX12.out) 5).trans rfl, (blk_cell (blk_drew HX12.out) 6).trans rfl, (blk_cell (blk_drew HX12.out) 7).trans rfl, (blk_cell (blk_drew HX12.out) 8).trans rfl, (blk_cell (blk_drew HX12.out) 9).trans rfl⟩
                clear hK zK hHeld
                have hHeld := hHeld2
                clear hHeld2
                try simp only [Act.put, List.setIfInBounds_toArray, List.set_cons_zero, List.set_cons_succ]
                refine take_at (i := 23) (take_d rfl) ?_
                intro h_i
                refine wpAnyH_take (v := ?_) h_i (by kernel_rfl) (by kernel_rfl) (by kernel_rfl) (fun _ _ _ h => h) (Or.inl ⟨by rfl, ?_⟩) (by assumption) ?_
                case refine_2 => (intro w hSw; (try dsimp only at hSw); go_simp; (try with_reducible rfl))
                clear h_i
                try simp only [Act.put, List.setIfInBounds_toArray, List.set_cons_zero, List.set_cons_succ]
                refine take_at (i := 24) (take_d rfl) ?_
                intro h_i
                refine wpAnyH_take (v := ?_) h_i (by kernel_rfl) (by kernel_rfl) (by kernel_rfl) (fun _ _ _ h => h) (Or.inl ⟨by rfl, ?_⟩) (by assumption) ?_
                case refine_2 => (intro w hSw; (try dsimp only at hSw); go_simp; (try with_reducible rfl))
                clear h_i
                try simp only [Act.put, List.setIfInBounds_toArray, List.set_cons_zero, List.set_cons_succ]
                refine take_at (i := 25) (take_d rfl) ?_
                intro h_i
                refine wpAnyH_take (v := ?_) h_i (by kernel_rfl) (by kernel_rfl) (by kernel_rfl) (fun _ _ _ h => h) (Or.inl ⟨by rfl, ?_⟩) (by assumption) ?_
                case refine_2 => (intro w hSw; (try dsimp only at hSw); go_simp; (try with_reducible rfl))
                clear h_i
                try simp only [Act.put, List.setIfInBounds_toArray, List.set_cons_zero, List.set_cons_succ]
                refine take_at (i := 26) (take_d rfl) ?_
                intro h_i
                refine wpAnyH_take (v := ?_) h_i (by kernel_rfl) (by kernel_rfl) (by kernel_rfl) (fun _ _ _ h => h) (Or.inl ⟨by rfl, ?_⟩) (by assumption) ?_
                case refine_2 => (intro w hSw; (try dsimp only at hSw); go_simp; (try with_reducible rfl))
                clear h_i
                try simp only [Act.put, List.setIfInBounds_toArray, List.set_cons_zero, List.set_cons_succ]
                refine take_at (i := 28) (take_d rfl) ?_
                intro h_i
                refine wpAnyH_take (v := ?_) h_i (by kernel_rfl) (by kernel_rfl) (by kernel_rfl) (fun _ _ _ h => h) (Or.inl ⟨by rfl, ?_⟩) (by assumption) ?_
                case refine_2 => (intro w hSw; (try dsimp only at hSw); go_simp; (try with_reducible rfl))
                clear h_i
                try simp only [Act.put, List.setIfInBounds_toArray, List.set_cons_zero, List.set_cons_succ]
                refine take_at (i := 29) (take_d rfl) ?_
                intro h_i
                refine wpAnyH_take (v := ?_) h_i (by kernel_rfl) (by kernel_rfl) (by kernel_rfl) (fun _ _ _ h => h) (Or.inl ⟨by rfl, ?_⟩) (by assumption) ?_
                case refine_2 => (intro w hSw; (try dsimp only at hSw); go_simp; (try with_reducible rfl))
                clear h_i
                try simp only [Act.put, List.setIfInBounds_toArray, List.set_cons_zero, List.set_cons_succ]
                refine wpAnyH_ready (rs := [27]) (by kernel_rfl) (by simp) ?_
                refine AllReadyH.cons (take_d rfl) (fun zK hK => ?_) AllReadyH.nil
                go_simp
                refine HLN.out.mono ?_
                rintro e wn ⟨rfl, rfl⟩
                go_wp2_with fail
                refine hK.out _ _ ?_ (fun hHeld2 => ?_)
                · exact ⟨(blk_cell (blk_drew HX12.out) 0).trans rfl, (blk_cell (blk_drew HX12.out) 1).trans rfl, (blk_cell (blk_drew HX12.out) 2).trans rfl, (blk_cell (blk_drew HX12.out) 3).trans rfl, (blk_cell (blk_drew HX12.out) 4).trans rfl, (blk_cell (blk_drew HX12.out) 5).trans rfl, (blk_cell (blk_drew HX12.out) 6).trans rfl, (blk_cell (blk_drew HX12.out) 7).trans rfl, (blk_cell (blk_drew HX12.out) 8).trans rfl, (blk_cell (blk_drew HX12.out) 9).trans rfl⟩
                clear hK zK hHeld
                have hHeld := hHeld2
                clear hHeld2
                try simp only [Act.put, List.setIfInBounds_toArray, List.set_cons_zero, List.set_cons_succ]
                refine wpAnyH_ready (rs := [30]) (by kernel_rfl) (by simp) ?_
                refine AllReadyH.cons (take_d rfl) (fun zK hK => ?_) AllReadyH.nil
                go_simp
                refine HL9.out.mono ?_
                rintro e w13 ⟨rfl, hb13⟩
                have HB13 := Aside0.mk ((below_drew (Below.refl w12.heap.size w12)).trans hb13)
                clear hb13
                go_wp2_with fail
                refine hK.out _ _ ?_ (fun hHeld2 => ?_)
                · exact ⟨(blk_cell (blk_below HX12.out HB13.out) 0).trans rfl, (blk_cell (blk_below HX12.out HB13.out) 1).trans rfl, (blk_cell (blk_below HX12.out HB13.out) 2).trans rfl, (blk_cell (blk_below HX12.out HB13.out) 3).trans rfl, (blk_cell (blk_below HX12.out HB13.out) 4).trans rfl, (blk_cell (blk_below HX12.out HB13.out) 5).trans rfl, (blk_cell (blk_below HX12.out HB13.out) 6).trans rfl, (blk_cell (blk_below HX12.out HB13.out) 7).trans rfl, (blk_cell (blk_below HX12.out HB13.out) 8).trans rfl, (blk_cell (blk_below HX12.out HB13.out) 9).trans rfl⟩
                clear hK zK hHeld
                have hHeld := hHeld2
                clear hHeld2
                try simp only [Act.put, List.setIfInBounds_toArray, List.set_cons_zero, List.set_cons_succ]
                refine take_at (i := 31) (take_d rfl) ?_
                intro h_i
                refine wpAnyH_take (v := ?_) h_i (by kernel_rfl) (by kernel_rfl) (by kernel_rfl) (fun _ _ _ h => h) (Or.inl ⟨by rfl, ?_⟩) (by assumption) ?_
                case refine_2 => (intro w hSw; (try dsimp only at hSw); go_simp; (try with_reducible rfl))
                clear h_i
                try simp only [Act.put, List.setIfInBounds_toArray, List.set_cons_zero, List.set_cons_succ]
                refine take_at (i := 32) (take_d rfl) ?_
                intro h_i
                refine wpAnyH_take (v := ?_) h_i (by kernel_rfl) (by kernel_rfl) (by kernel_rfl) (fun _ _ _ h => h) (Or.inl ⟨by rfl, ?_⟩) (by assumption) ?_
                case refine_2 => (intro w hSw; (try dsimp only at hSw); go_simp; (try with_reducible rfl))
                clear h_i
                try simp only [Act.put, List.setIfInBounds_toArray, List.set_cons_zero, List.set_cons_succ]
                refine take_at (i := 33) (take_d rfl) ?_
                intro h_i
                refine wpAnyH_take (v := ?_) h_i (by kernel_rfl) (by kernel_rfl) (by kernel_rfl) (fun _ _ _ h => h) (Or.inl ⟨by rfl, ?_⟩) (by assumption) ?_
                case refine_2 => (intro w hSw; (try dsimp only at hSw); go_simp; (try with_reducible rfl))
                clear h_i
                try simp only [Act.put, List.setIfInBounds_toArray, List.set_cons_zero, List.set_cons_succ]
                refine take_at (i := 34) (take_d rfl) ?_
                intro h_i
                refine wpAnyH_take (v := ?_) h_i (by kernel_rfl) (by kernel_rfl) (by kernel_rfl) (fun _ _ _ h => h) (Or.inl ⟨by rfl, ?_⟩) (by assumption) ?_
                case refine_2 => (intro w hSw; (try dsimp only at hSw); go_simp; (try with_reducible rfl))
                clear h_i
                try simp only [Act.put, List.setIfInBounds_toArray, List.set_cons_zero, List.set_cons_succ]
                refine take_at (i := 36) (take_d rfl) ?_
                intro h_i
                refine wpAnyH_take (v := ?_) h_i (by kernel_rfl) (by kernel_rfl) (by kernel_rfl) (fun _ _ _ h => h) (Or.inl ⟨by rfl, ?_⟩) (by assumption) ?_
                case refine_2 => (intro w hSw; (try dsimp only at hSw); go_simp; (try with_reducible rfl))
                clear h_i
                try simp only [Act.put, List.setIfInBounds_toArray, List.set_cons_zero, List.set_cons_succ]
                refine wpAnyH_ready (rs := [35]) (by kernel_rfl) (by simp) ?_
                refine AllReadyH.cons (take_d rfl) (fun zK hK => ?_) AllReadyH.nil
                go_simp
                refine (HFN.out _ HB13.out).mono ?_
                rintro e w14 ⟨F14, d14, rfl, hd14, hC14, hb14⟩
                have HB14 := Aside0.mk (HB13.out.trans (hb14.mono HB13.out.size))
                have HF14 := Aside0.mk (And.intro hd14 hC14)
                clear hb14 hd14 hC14
                go_wp2_with fail
                refine hK.out _ _ ?_ (fun hHeld2 => ?_)
                · exact ⟨(blk_cell (blk_below HX12.out HB14.out) 0).trans rfl, (blk_cell (blk_below HX12.out HB14.out) 1).trans rfl, (blk_cell (blk_below HX12.out HB14.out) 2).trans rfl, (blk_cell (blk_below HX12.out HB14.out) 3).trans rfl, (blk_cell (blk_below HX12.out HB14.out) 4).trans rfl, (blk_cell (blk_below HX12.out HB14.out) 5).trans rfl, (blk_cell (blk_below HX12.out HB14.out) 6).trans rfl, (blk_cell (blk_below HX12.out HB14.out) 7).trans rfl, (blk_cell (blk_below HX12.out HB14.out) 8).trans rfl, (blk_cell (blk_below HX12.out HB14.out) 9).trans rfl⟩
                clear hK zK hHeld
                have hHeld := hHeld2
                clear hHeld2
                try simp only [Act.put, List.setIfInBounds_toArray, List.set_cons_zero, List.set_cons_succ]
                refine wpAnyH_ready (rs := [37]) (by kernel_rfl) (by simp) ?_
                refine AllReadyH.cons (take_d rfl) (fun zK hK => ?_) AllReadyH.nil
                go_simp
                refine (catchpitref05_Fields.calls 1000001 F14 d14 Y6.fields Z1 i1 Y6.fields true w14 HF14.out.2 HF14.out.1 (Kd.C_below HFROW.out HB14.out) HZ.out.2.1 (HG.out _ (B12.out.trans (HB14.out.mono B12.out.size))) (FieldsM_eq _ (by have := HFB6.out; omega) _ (by have := HFB6.out; omega))).mono ?_
                rintro e w15 ⟨rfl, hd15⟩
                have HB15 := Aside0.mk (HB14.out.trans (hd15.below.mono HB14.out.size))
                clear hd15
                go_wp2_with fail
                refine hK.out _ _ ?_ (fun hHeld2 => ?_)
                · exact ⟨(blk_cell (blk_below HX12.out HB15.out) 0).trans rfl, (blk_cell (blk_below HX12.out HB15.out) 1).trans rfl, (blk_cell (blk_below HX12.out HB15.out) 2).trans rfl, (blk_cell (blk_below HX12.out HB15.out) 3).trans rfl, (blk_cell (blk_below HX12.out HB15.out) 4).trans rfl, (blk_cell (blk_below HX12.out HB15.out) 5).trans rfl, (blk_cell (blk_below HX12.out HB15.out) 6).trans rfl, (blk_cell (blk_below HX12.out HB15.out) 7).trans rfl, (blk_cell (blk_below HX12.out HB15.out) 8).trans rfl, (blk_cell (blk_below HX12.out HB15.out) 9).trans rfl⟩
                clear hK zK hHeld
                have hHeld := hHeld2
                clear hHeld2
                try simp only [Act.put, List.setIfInBounds_toArray, List.set_cons_zero, List.set_cons_succ]
                refine take_at (i := 38) (take_d rfl) ?_
                intro h_i
                refine wpAnyH_take (v := ?_) h_i (by kernel_rfl) (by kernel_rfl) (by kernel_rfl) (fun _ _ _ h => h) (Or.inl ⟨by rfl, ?_⟩) (by assumption) ?_
                case refine_2 => (intro w hSw; (try dsimp only at hSw); go_simp; (try with_reducible rfl))
                clear h_i
                try simp only [Act.put, List.setIfInBounds_toArray, List.set_cons_zero, List.set_cons_succ]
                refine take_at (i := 39) (take_d rfl) ?_
                intro h_i
                refine wpAnyH_take (v := ?_) h_i (by kernel_rfl) (by kernel_rfl) (by kernel_rfl) (fun _ _ _ h => h) (Or.inl ⟨by rfl, ?_⟩) (by assumption) ?_
                case refine_2 => (intro w hSw; (try dsimp only at hSw); go_simp; (try with_reducible rfl))
                clear h_i
                try simp only [Act.put, List.setIfInBounds_toArray, List.set_cons_zero, List.set_cons_succ]
                refine wpAnyH_done (by kernel_rfl) ?_ _
                go_wp2_with fail
                go_roundw
                case rel =>
                  have hk1 := HK1.out
                  refine ⟨k1, a7, Y6, 0, co6, .slice A12 a7 c12, lv6, fv6, Z0, Z1, i0, i1, rfl, rfl, rfl, by omega, ⟨⟨?_, ?_, ?_, ?_, ?_, blk_below HX12.out HB15.out, ?_, ?_, ?_, ?_, HZ.out.1, HZ.out.2.1, ?_⟩⟩⟩
                  · rw [HED.out]
                    exact AC.out.below HB15.out
                  · exact ((MB.out.trans (Moves.of_below HB11.out)).grow HG12.out (fun x hx => (RB.out.at x hx).1)).trans (Moves.of_below HB15.out)
                  · exact ((BBt.out.trans (HB11.out.mono (Nat.le_trans HS9.out BBt.out.size))).trans (HB12.out.mono HS9.out)).trans (HB15.out.mono (Nat.le_trans (Nat.le_trans HS9.out BBt.out.size) HL12.out))
                  · rw [HFL.out, ← HA7.out, take_app9, HA7.out]
                    exact (HR12.out.moves (Moves.of_below (S := fun _ => False) HB15.out) (fun _ _ h => h)).1
                  · intro x hx hs
                    rcases HT12.out x hx with h | h
                    · exact DB.out x h hs
                    · have := AB.out.own_lt hs
                      have := HB11.out.size
                      omega
                  · rw [HFL.out, HTPE.out]
                    exact HRN.out
                  · exact fun h => absurd h (by decide)
                  · rw [HFL.out, List.length_append]
                    have := HA7.out
                    omega
                  · have := HA7.out
                    rw [HD6.out, List.length_append]
                    omega
                  · refine fun _ => ⟨Kd.C_below HFROW.out HB15.out, fun hp ad e => ⟨fun hs => ?_, fun hs => ?_, fun hs => ?_⟩⟩
                    · have h1 := HFR.out ad e
                      have h2 := HA6.out.own_lt hs
                      have := HNA.out
                      omega
                    · have h1 := HFR.out ad e
                      have hc := CF.out
                      rw [e] at hc
                      have h4 := CF_lt hc hp
                      have := HNA.out
                      rcases HT12.out _ hs with h | h
                      · obtain ⟨_, cs, hcs⟩ := HRW.out.1.at _ h
                        have := blk_lt hcs
                        omega
                      · have := HB11.out.size
                        omega
                    · have h1 := HFR.out ad e
                      have h2 := blk_lt HX6.out
                      have := HNA.out
                      omega
                case measure =>
                  have hk1 := HK1.out
                  simp [intOf]
                  omega
              · have hn4 : (er6 != 4) = true := by rw [bne_iff_ne]; exact h64
                have hn0 : (er6 == 0) = false := by rw [beq_eq_false_iff_ne]; exact h60
                have hx := XB.out
                have xk0 : wB.cell? ⟨bx, 0, none⟩ = some (Value.int .i64 (Y6.place : Int)) := (blk_cell hx 0).trans rfl
                have xk1 : wB.cell? ⟨bx, 1, none⟩ = some (Value.int .u64 (Y6.n : Int)) := (blk_cell hx 1).trans rfl
                have xk2 : wB.cell? ⟨bx, 2, none⟩ = some (Value.int .i64 (Y6.count : Int)) := (blk_cell hx 2).trans rfl
                have xk3 : wB.cell? ⟨bx, 3, none⟩ = some (Value.int .i64 (Y6.lines : Int)) := (blk_cell hx 3).trans rfl
                have xk4 : wB.cell? ⟨bx, 4, none⟩ = some (Value.int .i64 (Y6.size : Int)) := (blk_cell hx 4).trans rfl
                have xk5 : wB.cell? ⟨bx, 5, none⟩ = some (Value.string (strOfNums Y6.text)) := (blk_cell hx 5).trans rfl
                have xk6 : wB.cell? ⟨bx, 6, none⟩ = some (Value.slice Z0 Y6.data.length i0) := (blk_cell hx 6).trans rfl
                have xk7 : wB.cell? ⟨bx, 7, none⟩ = some (Value.slice Z1 Y6.fields.length i1) := (blk_cell hx 7).trans rfl
                have xk8 : wB.cell? ⟨bx, 8, none⟩ = some (Value.int .i64 (a7 : Int)) := (blk_cell hx 8).trans rfl
                have xk9 : wB.cell? ⟨bx, 9, none⟩ = some (Value.int .i64 er6) := (blk_cell hx 9).trans rfl
                have kw9 := HW9.out
                have hwa : IntKind.i64.wrap ((a7 : Int) - (T.length : Int)) = (a6 : Int) := by
                  have := HA7.out
                  unfold IntKind.wrap
                  simp [IntKind.bits, IntKind.signed]
                  omega
                have hdl6 : Y.data.length + out6.length = Y6.data.length := by rw [HD6.out, List.length_append]
                obtain ⟨Zm, im, hcf, hcm⟩ : ∃ Zm im, (∀ W : World, (Instr.slice 24 (.slice Z0 Y6.data.length i0) (some (.int .i64 (Y.data.length : Int))) none none).run Tryd.prog W = .ok (.slice Zm out6.length im) W) ∧ Aside0 (out6.length ≤ im ∧ Kd.C (Kd.int .u8) wB Zm out6.length out6) := by
                  have hq : (Tryd.prog.info? 5).map (fun i => i.size) = some 1 := by kernel_rfl
                  obtain ⟨i9, hi9, hsz9⟩ := Option.map_eq_some_iff.1 hq
                  have h1 := cut_from (P := Tryd.prog) 24 5 .i64 Tryd.underlying24 hi9 1 hsz9 Z0 Y6.data.length i0 (Y.data.length : Int) (by omega) (by omega)
                  rw [Int.toNat_natCast] at h1
                  have h2 := Kd.C_drop (m := Y.data.length) C0.out (by omega) HZ.out.1
                  have h3 : Y6.data.drop Y.data.length = out6 := by rw [HD6.out, List.drop_left]
                  rw [h3, show (Kd.int .u8).sz = 1 from rfl] at h2
                  refine ⟨_, i0 - Y.data.length, fun W => ?_, ⟨by have := HZ.out.1; omega, h2⟩⟩
                  rw [h1 W, show Y6.data.length - Y.data.length = out6.length by omega]
                have hq0 : (Tryd.prog.info? 5).map (fun i => i.size) = some 1 := by kernel_rfl
                obtain ⟨i8, hi8, hsz8⟩ := Option.map_eq_some_iff.1 hq0
                have hct := cut_to (P := Tryd.prog) 24 5 .i64 Tryd.underlying24 hi8 Ap p.length cp (a6 : Int) (by omega) (by omega) hle
                rw [Int.toNat_natCast] at hct
                have HSM := Aside0.mk (catchpitref08_Same.calls 1000001 A6 c6 out6 Zm im out6 true wB OB.out HC6.out.1 hcm.out.2 hcm.out.1 (HG.out _ (B9.out.trans (BBt.out.mono HWB.out))) (by rw [Same8_eq _ _ (by omega) _ (by omega), decide_eq_true rfl]))
                have hml : (p.take a6).length = a6 := by rw [List.length_take]; omega
                clear hx hq0 hi8 hsz8 hdl6
                go_wp2_with fail
                refine HSM.out.mono ?_
                rintro e w11 ⟨rfl, hd11⟩
                have HB11 := Aside0.mk hd11.below
                clear hd11 HSM hcf xk0 xk1 xk2 xk3 xk4 xk5 xk6 xk7 xk8 xk9 kw9
                have hx := blk_below XB.out HB11.out
                have xk0 : w11.cell? ⟨bx, 0, none⟩ = some (Value.int .i64 (Y6.place : Int)) := (blk_cell hx 0).trans rfl
                have xk1 : w11.cell? ⟨bx, 1, none⟩ = some (Value.int .u64 (Y6.n : Int)) := (blk_cell hx 1).trans rfl
                have xk2 : w11.cell? ⟨bx, 2, none⟩ = some (Value.int .i64 (Y6.count : Int)) := (blk_cell hx 2).trans rfl
                have xk3 : w11.cell? ⟨bx, 3, none⟩ = some (Value.int .i64 (Y6.lines : Int)) := (blk_cell hx 3).trans rfl
                have xk4 : w11.cell? ⟨bx, 4, none⟩ = some (Value.int .i64 (Y6.size : Int)) := (blk_cell hx 4).trans rfl
                have xk5 : w11.cell? ⟨bx, 5, none⟩ = some (Value.string (strOfNums Y6.text)) := (blk_cell hx 5).trans rfl
                have xk6 : w11.cell? ⟨bx, 6, none⟩ = some (Value.slice Z0 Y6.data.length i0) := (blk_cell hx 6).trans rfl
                have xk7 : w11.cell? ⟨bx, 7, none⟩ = some (Value.slice Z1 Y6.fields.length i1) := (blk_cell hx 7).trans rfl
                have xk8 : w11.cell? ⟨bx, 8, none⟩ = some (Value.int .i64 (a7 : Int)) := (blk_cell hx 8).trans rfl
                have xk9 : w11.cell? ⟨bx, 9, none⟩ = some (Value.int .i64 er6) := (blk_cell hx 9).trans rfl
                clear hx
                have RB1 := Aside0.mk (show RowD w11 w9.heap.size (.slice Ao T.length cO) T by
                  have := (RB.out.moves (Moves.of_below (S := fun _ => False) HB11.out) (fun _ _ h => h)).1
                  rwa [HTT.out] at this)
                have HPT := Aside0.mk (Kd.C_take (m := a6) (HPW.out w11 ((B9.out.trans (BBt.out.mono HWB.out)).trans (HB11.out.mono (Nat.le_trans B9.out.size BBt.out.size)))) (by omega))
                have hw911 : w9.heap.size ≤ w11.heap.size := Nat.le_trans MB.out.sz HB11.out.size
                have hlo : T.length + (p.take a6).length ≤ 140737488355328 := by omega
                have HML := Aside0.mk hml
                clear hml
                go_wp2_with ((with_reducible refine gate_builtin (b := .append) (xs := #[.tmp 120, .tmp 123]) rfl ?_); at_builtin; refine list_plusD w9.heap.size rfl (.tmp 120) (.tmp 123) 24 (.int .u8 0) rfl Tryd.underlying24 info5 rfl (.slice Ao T.length cO) T (p.take a6) Ap cp rfl (by rw [HML.out]; rfl) RB1.out HPT.out hw911 hlo ?_; intro v12 w12 hr12 hb12 hg12 hat12; obtain ⟨A12, c12, q12, _, _⟩ := hr12.reads; rw [show (T ++ p.take a6).length = a7 from by rw [List.length_append, HML.out]; exact HA7.out] at q12; subst q12; have HR12 := Aside0.mk hr12; have HB12 := Aside0.mk hb12; have HG12 := Aside0.mk hg12; have HT12 := Aside0.mk hat12; have hx12 := (hg12.block bx (Nat.lt_of_lt_of_le (blk_lt XB.out) HB11.out.size) (fun e => RB1.out.not_got (blk_below XB.out HB11.out) e.symm)).trans (blk_below XB.out HB11.out); have HX12 := Aside0.mk hx12; clear xk0 xk1 xk2 xk3 xk4 xk5 xk6 xk7 xk8 xk9; have xk0 : w12.cell? ⟨bx, 0, none⟩ = some (Value.int .i64 (Y6.place : Int)) := (blk_cell hx12 0).trans rfl; have xk1 : w12.cell? ⟨bx, 1, none⟩ = some (Value.int .u64 (Y6.n : Int)) := (blk_cell hx12 1).trans rfl; have xk2 : w12.cell? ⟨bx, 2, none⟩ = some (Value.int .i64 (Y6.count : Int)) := (blk_cell hx12 2).trans rfl; have xk3 : w12.cell? ⟨bx, 3, none⟩ = some (Value.int .i64 (Y6.lines : Int)) := (blk_cell hx12 3).trans rfl; have xk4 : w12.cell? ⟨bx, 4, none⟩ = some (Value.int .i64 (Y6.size : Int)) := (blk_cell hx12 4).trans rfl; have xk5 : w12.cell? ⟨bx, 5, none⟩ = some (Value.string (strOfNums Y6.text)) := (blk_cell hx12 5).trans rfl; have xk6 : w12.cell? ⟨bx, 6, none⟩ = some (Value.slice Z0 Y6.data.length i0) := (blk_cell hx12 6).trans rfl; have xk7 : w12.cell? ⟨bx, 7, none⟩ = some (Value.slice Z1 Y6.fields.length i1) := (blk_cell hx12 7).trans rfl; have xk8 : w12.cell? ⟨bx, 8, none⟩ = some (Value.int .i64 (a7 : Int)) := (blk_cell hx12 8).trans rfl; have xk9 : w12.cell? ⟨bx, 9, none⟩ = some (Value.int .i64 er6) := (blk_cell hx12 9).trans rfl; clear hr12 hb12 hg12 hat12 hx12)
                have HL12 := Aside0.mk (show wB.heap.size ≤ w12.heap.size from Nat.le_trans HB11.out.size HG12.out.size)
                have DB11 := Aside0.mk (show ∀ x, (Value.slice Ao T.length cO).ownBlock = some x → ¬ Own3 b lv6 fv6 x from DB.out)
                have AC := Aside0.mk ((AB.out.below HB11.out).grow HG12.out DB11.out)
                have ACd := Aside0.mk (AC.out.below (below_drew (Below.refl w12.heap.size w12)))
                have B12 := Aside0.mk (((B9.out.trans (BBt.out.mono HWB.out)).trans (HB11.out.mono (Nat.le_trans B9.out.size BBt.out.size))).trans (HB12.out.mono B9.out.size))
                have HDN := Aside0.mk (done_calls BB b e0 e1 e2 Y6 co6 lv6 fv6 a7 Y6.data.length er6 w12.drew ACd.out)
                have HEN := Aside0.mk (err_calls BB b e0 e1 e2 Y6 co6 lv6 fv6 a7 Y6.data.length er6 w12.drew ACd.out)
                have HTN := Aside0.mk (taken_calls BB b e0 e1 e2 Y6 co6 lv6 fv6 a7 Y6.data.length er6 w12.drew ACd.out)
                have HGN := Aside0.mk (given_calls BB b e0 e1 e2 Y6 co6 lv6 fv6 a7 Y6.data.length er6 w12.drew ACd.out)
                have HLN := Aside0.mk (left_calls BB b e0 e1 e2 Y6 co6 lv6 fv6 a7 Y6.data.length er6 w12.drew ACd.out)
                have HL9 := Aside0.mk (left9_calls Y6 Z0 Z1 Y6.data.length Y6.fields.length i0 i1 w12.drew)
                generalize hqn : (if Y6.place = 3 then (Y6.n : Int) else 0) = qn at *
                have HFB6 := Aside0.mk (show Y6.fields.length ≤ 1000 by
                  have := run_dataLen (E := envM e0 e1 e2) TP 0 minit
                  rw [HRN.out] at this
                  simp [minit] at this
                  have h2 : TP.length = T.length + p.length := by rw [← HTPE.out, List.length_append]
                  omega)
                have HFN := Aside0.mk (fun W' (hb : Below w12.heap.size w12 W') => fields_calls BB b e0 e1 e2 Y6 co6 lv6 fv6 a7 Y6.data.length er6 W' (AC.out.below hb) (Nat.le_trans HFB6.out (by decide)))
                have hp11 : ¬ Y6.place = 11 := fun h => absurd (HPL.out.2 h) h60
                have hpb : ((Y6.place : Int) == 11) = false := by rw [beq_eq_false_iff_ne]; omega
                rw [hpb] at HDN
                rw [if_neg hp11] at HFN
                clear hp11 hpb hqn
                have HFROW := Aside0.mk (show Kd.C k53 w12 Z1 Y6.fields.length Y6.fields from CF_moves (moves_grown HG12.out) (Kd.C_below CF.out HB11.out) (fun hp ad e h => by
                  have h1 := HFR.out ad e
                  obtain ⟨_, cs, hcs⟩ := HRW.out.1.at _ h
                  have := blk_lt hcs
                  have := HNA.out
                  omega))
                refine wp_region_held_drew (S := (fun W => W.cell? ⟨bx, 0, none⟩ = some (Value.int .i64 (Y6.place : Int)) ∧ W.cell? ⟨bx, 1, none⟩ = some (Value.int .u64 (Y6.n : Int)) ∧ W.cell? ⟨bx, 2, none⟩ = some (Value.int .i64 (Y6.count : Int)) ∧ W.cell? ⟨bx, 3, none⟩ = some (Value.int .i64 (Y6.lines : Int)) ∧ W.cell? ⟨bx, 4, none⟩ = some (Value.int .i64 (Y6.size : Int)) ∧ W.cell? ⟨bx, 5, none⟩ = some (Value.string (strOfNums Y6.text)) ∧ W.cell? ⟨bx, 6, none⟩ = some (Value.slice Z0 Y6.data.length i0) ∧ W.cell? ⟨bx, 7, none⟩ = some (Value.slice Z1 Y6.fields.length i1) ∧ W.cell? ⟨bx, 8, none⟩ = some (Value.int .i64 (a7 : Int)) ∧ W.cell? ⟨bx, 9, none⟩ = some (Value.int .i64 er6))) (by kernel_rfl) ?_ (fun hHeld => ?_)
                · exact ⟨(blk_cell (blk_drew HX12.out) 0).trans rfl, (blk_cell (blk_drew HX12.out) 1).trans rfl, (blk_cell (blk_drew HX12.out) 2).trans rfl, (blk_cell (blk_drew HX12.out) 3).trans rfl, (blk_cell (blk_drew HX12.out) 4).trans rfl, (blk_cell (blk_drew HX12.out) 5).trans rfl, (blk_cell (blk_drew HX12.out) 6).trans rfl, (blk_cell (blk_drew HX12.out) 7).trans rfl, (blk_cell (blk_drew HX12.out) 8).trans rfl, (blk_cell (blk_drew HX12.out) 9).trans rfl⟩
                refine take_at (i := 0) (take_d rfl) ?_
                intro h_i
                refine wpAnyH_take (v := ?_) h_i (by kernel_rfl) (by kernel_rfl) (by kernel_rfl) (fun _ _ _ h => h) (Or.inl ⟨by rfl, ?_⟩) (by assumption) ?_
                case refine_2 => (intro w hSw; (try dsimp only at hSw); go_simp; (try with_reducible rfl))
                clear h_i
                try simp only [Act.put, List.setIfInBounds_toArray, List.set_cons_zero, List.set_cons_succ]
                refine take_at (i := 2) (take_d rfl) ?_
                intro h_i
                refine wpAnyH_take (v := ?_) h_i (by kernel_rfl) (by kernel_rfl) (by kernel_rfl) (fun _ _ _ h => h) (Or.inl ⟨by rfl, ?_⟩) (by assumption) ?_
                case refine_2 => (intro w hSw; (try dsimp only at hSw); go_simp; (try with_reducible rfl))
                clear h_i
                try simp only [Act.put, List.setIfInBounds_toArray, List.set_cons_zero, List.set_cons_succ]
                refine take_at (i := 3) (take_d rfl) ?_
                intro h_i
                refine wpAnyH_take (v := ?_) h_i (by kernel_rfl) (by kernel_rfl) (by kernel_rfl) (fun _ _ _ h => h) (Or.inl ⟨by rfl, ?_⟩) (by assumption) ?_
                case refine_2 => (intro w hSw; (try dsimp only at hSw); go_simp; (try with_reducible rfl))
                clear h_i
                try simp only [Act.put, List.setIfInBounds_toArray, List.set_cons_zero, List.set_cons_succ]
                refine take_at (i := 4) (take_d rfl) ?_
                intro h_i
                refine wpAnyH_take (v := ?_) h_i (by kernel_rfl) (by kernel_rfl) (by kernel_rfl) (fun _ _ _ h => h) (Or.inl ⟨by rfl, ?_⟩) (by assumption) ?_
                case refine_2 => (intro w hSw; (try dsimp only at hSw); go_simp; (try with_reducible rfl))
                clear h_i
                try simp only [Act.put, List.setIfInBounds_toArray, List.set_cons_zero, List.set_cons_succ]
                refine wpAnyH_ready (rs := [1]) (by kernel_rfl) (by simp) ?_
                refine AllReadyH.cons (take_d rfl) (fun zK hK => ?_) AllReadyH.nil
                go_simp
                refine HDN.out.mono ?_
                rintro e wn ⟨rfl, rfl⟩
                go_wp2_with fail
                refine hK.out _ _ ?_ (fun hHeld2 => ?_)
                · exact ⟨(blk_cell (blk_drew HX12.out) 0).trans rfl, (blk_cell (blk_drew HX12.out) 1).trans rfl, (blk_cell (blk_drew HX12.out) 2).trans rfl, (blk_cell (blk_drew HX12.out) 3).trans rfl, (blk_cell (blk_drew HX12.out) 4).trans rfl, (blk_cell (blk_drew HX12.out) 5).trans rfl, (blk_cell (blk_drew HX12.out) 6).trans rfl, (blk_cell (blk_drew HX12.out) 7).trans rfl, (blk_cell (blk_drew HX12.out) 8).trans rfl, (blk_cell (blk_drew HX12.out) 9).trans rfl⟩
                clear hK zK hHeld
                have hHeld := hHeld2
                clear hHeld2
                try simp only [Act.put, List.setIfInBounds_toArray, List.set_cons_zero, List.set_cons_succ]
                refine take_at (i := 5) (take_d rfl) ?_
                intro h_i
                refine wpAnyH_take (v := ?_) h_i (by kernel_rfl) (by kernel_rfl) (by kernel_rfl) (fun _ _ _ h => h) (Or.inl ⟨by rfl, ?_⟩) (by assumption) ?_
                case refine_2 => (intro w hSw; (try dsimp only at hSw); go_simp; (try with_reducible rfl))
                clear h_i
                try simp only [Act.put, List.setIfInBounds_toArray, List.set_cons_zero, List.set_cons_succ]
                refine take_at (i := 6) (take_d rfl) ?_
                intro h_i
                refine wpAnyH_take (v := ?_) h_i (by kernel_rfl) (by kernel_rfl) (by kernel_rfl) (fun _ _ _ h => h) (Or.inl ⟨by rfl, ?_⟩) (by assumption) ?_
                case refine_2 => (intro w hSw; (try dsimp only at hSw); go_simp; (try with_reducible rfl))
                clear h_i
                try simp only [Act.put, List.setIfInBounds_toArray, List.set_cons_zero, List.set_cons_succ]
                refine take_at (i := 7) (take_d rfl) ?_
                intro h_i
                refine wpAnyH_take (v := ?_) h_i (by kernel_rfl) (by kernel_rfl) (by kernel_rfl) (fun _ _ _ h => h) (Or.inl ⟨by rfl, ?_⟩) (by assumption) ?_
                case refine_2 => (intro w hSw; (try dsimp only at hSw); go_simp; (try with_reducible rfl))
                clear h_i
                try simp only [Act.put, List.setIfInBounds_toArray, List.set_cons_zero, List.set_cons_succ]
                refine take_at (i := 9) (take_d rfl) ?_
                intro h_i
                refine wpAnyH_take (v := ?_) h_i (by kernel_rfl) (by kernel_rfl) (by kernel_rfl) (fun _ _ _ h => h) (Or.inl ⟨by rfl, ?_⟩) (by assumption) ?_
                case refine_2 => (intro w hSw; (try dsimp only at hSw); go_simp; (try with_reducible rfl))
                clear h_i
                try simp only [Act.put, List.setIfInBounds_toArray, List.set_cons_zero, List.set_cons_succ]
                refine wpAnyH_ready (rs := [8]) (by kernel_rfl) (by simp) ?_
                refine AllReadyH.cons (take_d rfl) (fun zK hK => ?_) AllReadyH.nil
                go_simp
                refine HEN.out.mono ?_
                rintro e wn ⟨rfl, rfl⟩
                go_wp2_with fail
                refine hK.out _ _ ?_ (fun hHeld2 => ?_)
                · exact ⟨(blk_cell (blk_drew HX12.out) 0).trans rfl, (blk_cell (blk_drew HX12.out) 1).trans rfl, (blk_cell (blk_drew HX12.out) 2).trans rfl, (blk_cell (blk_drew HX12.out) 3).trans rfl, (blk_cell (blk_drew HX12.out) 4).trans rfl, (blk_cell (blk_drew HX12.out) 5).trans rfl, (blk_cell (blk_drew HX12.out) 6).trans rfl, (blk_cell (blk_drew HX12.out) 7).trans rfl, (blk_cell (blk_drew HX12.out) 8).trans rfl, (blk_cell (blk_drew HX12.out) 9).trans rfl⟩
                clear hK zK hHeld
                have hHeld := hHeld2
                clear hHeld2
                try simp only [Act.put, List.setIfInBounds_toArray, List.set_cons_zero, List.set_cons_succ]
                refine take_at (i := 10) (take_d rfl) ?_
                intro h_i
                refine wpAnyH_take (v := ?_) h_i (by kernel_rfl) (by kernel_rfl) (by kernel_rfl) (fun _ _ _ h => h) (Or.inl ⟨by rfl, ?_⟩) (by assumption) ?_
                case refine_2 => (intro w hSw; (try dsimp only at hSw); go_simp; (try with_reducible rfl))
                clear h_i
                try simp only [Act.put, List.setIfInBounds_toArray, List.set_cons_zero, List.set_cons_succ]
                refine take_at (i := 11) (take_d rfl) ?_
                intro h_i
                refine wpAnyH_take (v := ?_) h_i (by kernel_rfl) (by kernel_rfl) (by kernel_rfl) (fun _ _ _ h => h) (Or.inl ⟨by rfl, ?_⟩) (by assumption) ?_
                case refine_2 => (intro w hSw; (try dsimp only at hSw); go_simp; (try with_reducible rfl))
                clear h_i
                try simp only [Act.put, List.setIfInBounds_toArray, List.set_cons_zero, List.set_cons_succ]
                refine take_at (i := 12) (take_d rfl) ?_
                intro h_i
                refine wpAnyH_take (v := ?_) h_i (by kernel_rfl) (by kernel_rfl) (by kernel_rfl) (fun _ _ _ h => h) (Or.inl ⟨by rfl, ?_⟩) (by assumption) ?_
                case refine_2 => (intro w hSw; (try dsimp only at hSw); go_simp; (try with_reducible rfl))
                clear h_i
                try simp only [Act.put, List.setIfInBounds_toArray, List.set_cons_zero, List.set_cons_succ]
                refine take_at (i := 13) (take_d rfl) ?_
                intro h_i
                refine wpAnyH_take (v := ?_) h_i (by kernel_rfl) (by kernel_rfl) (by kernel_rfl) (fun _ _ _ h => h) (Or.inl ⟨by rfl, ?_⟩) (by assumption) ?_
                case refine_2 => (intro w hSw; (try dsimp only at hSw); go_simp; (try with_reducible rfl))
                clear h_i
                try simp only [Act.put, List.setIfInBounds_toArray, List.set_cons_zero, List.set_cons_succ]
                refine take_at (i := 15) (take_d rfl) ?_
                intro h_i
                refine wpAnyH_take (v := ?_) h_i (by kernel_rfl) (by kernel_rfl) (by kernel_rfl) (fun _ _ _ h => h) (Or.inl ⟨by rfl, ?_⟩) (by assumption) ?_
                case refine_2 => (intro w hSw; (try dsimp only at hSw); go_simp; (try with_reducible rfl))
                clear h_i
                try simp only [Act.put, List.setIfInBounds_toArray, List.set_cons_zero, List.set_cons_succ]
                refine take_at (i := 16) (take_d rfl) ?_
                intro h_i
                refine wpAnyH_take (v := ?_) h_i (by kernel_rfl) (by kernel_rfl) (by kernel_rfl) (fun _ _ _ h => h) (Or.inl ⟨by rfl, ?_⟩) (by assumption) ?_
                case refine_2 => (intro w hSw; (try dsimp only at hSw); go_simp; (try with_reducible rfl))
                clear h_i
                try simp only [Act.put, List.setIfInBounds_toArray, List.set_cons_zero, List.set_cons_succ]
                refine wpAnyH_ready (rs := [14]) (by kernel_rfl) (by simp) ?_
                refine AllReadyH.cons (take_d rfl) (fun zK hK => ?_) AllReadyH.nil
                go_simp
                refine HTN.out.mono ?_
                rintro e wn ⟨rfl, rfl⟩
                go_wp2_with fail
                refine hK.out _ _ ?_ (fun hHeld2 => ?_)
                · exact ⟨(blk_cell (blk_drew HX12.out) 0).trans rfl, (blk_cell (blk_drew HX12.out) 1).trans rfl, (blk_cell (blk_drew HX12.out) 2).trans rfl, (blk_cell (blk_drew HX12.out) 3).trans rfl, (blk_cell (blk_drew HX12.out) 4).trans rfl, (blk_cell (blk_drew HX12.out) 5).trans rfl, (blk_cell (blk_drew HX12.out) 6).trans rfl, (blk_cell (blk_drew HX12.out) 7).trans rfl, (blk_cell (blk_drew HX12.out) 8).trans rfl, (blk_cell (blk_drew HX12.out) 9).trans rfl⟩
                clear hK zK hHeld
                have hHeld := hHeld2
                clear hHeld2
                try simp only [Act.put, List.setIfInBounds_toArray, List.set_cons_zero, List.set_cons_succ]
                refine take_at (i := 17) (take_d rfl) ?_
                intro h_i
                refine wpAnyH_take (v := ?_) h_i (by kernel_rfl) (by kernel_rfl) (by kernel_rfl) (fun _ _ _ h => h) (Or.inl ⟨by rfl, ?_⟩) (by assumption) ?_
                case refine_2 => (intro w hSw; (try dsimp only at hSw); go_simp; (try with_reducible rfl))
                clear h_i
                try simp only [Act.put, List.setIfInBounds_toArray, List.set_cons_zero, List.set_cons_succ]
                refine take_at (i := 18) (take_d rfl) ?_
                intro h_i
                refine wpAnyH_take (v := ?_) h_i (by kernel_rfl) (by kernel_rfl) (by kernel_rfl) (fun _ _ _ h => h) (Or.inl ⟨by rfl, ?_⟩) (by assumption) ?_
                case refine_2 => (intro w hSw; (try dsimp only at hSw); go_simp; (try with_reducible rfl))
                clear h_i
                try simp only [Act.put, List.setIfInBounds_toArray, List.set_cons_zero, List.set_cons_succ]
                refine take_at (i := 19) (take_d rfl) ?_
                intro h_i
                refine wpAnyH_take (v := ?_) h_i (by kernel_rfl) (by kernel_rfl) (by kernel_rfl) (fun _ _ _ h => h) (Or.inl ⟨by rfl, ?_⟩) (by assumption) ?_
                case refine_2 => (intro w hSw; (try dsimp only at hSw); go_simp; (try with_reducible rfl))
                clear h_i
                try simp only [Act.put, List.setIfInBounds_toArray, List.set_cons_zero, List.set_cons_succ]
                refine take_at (i := 20) (take_d rfl) ?_
                intro h_i
                refine wpAnyH_take (v := ?_) h_i (by kernel_rfl) (by kernel_rfl) (by kernel_rfl) (fun _ _ _ h => h) (Or.inl ⟨by rfl, ?_⟩) (by assumption) ?_
                case refine_2 => (intro w hSw; (try dsimp only at hSw); go_simp; (try with_reducible rfl))
                clear h_i
                try simp only [Act.put, List.setIfInBounds_toArray, List.set_cons_zero, List.set_cons_succ]
                refine take_at (i := 22) (take_d rfl) ?_
                intro h_i
                refine wpAnyH_take (v := ?_) h_i (by kernel_rfl) (by kernel_rfl) (by kernel_rfl) (fun _ _ _ h => h) (Or.inl ⟨by rfl, ?_⟩) (by assumption) ?_
                case refine_2 => (intro w hSw; (try dsimp only at hSw); go_simp; (try with_reducible rfl))
                clear h_i
                try simp only [Act.put, List.setIfInBounds_toArray, List.set_cons_zero, List.set_cons_succ]
                refine wpAnyH_ready (rs := [21]) (by kernel_rfl) (by simp) ?_
                refine AllReadyH.cons (take_d rfl) (fun zK hK => ?_) AllReadyH.nil
                go_simp
                refine HGN.out.mono ?_
                rintro e wn ⟨rfl, rfl⟩
                go_wp2_with fail
                refine hK.out _ _ ?_ (fun hHeld2 => ?_)
                · exact ⟨(blk_cell (blk_drew HX12.out) 0).trans rfl, (blk_cell (blk_drew HX12.out) 1).trans rfl, (blk_cell (blk_drew HX12.out) 2).trans rfl, (blk_cell (blk_drew HX12.out) 3).trans rfl, (blk_cell (blk_drew HX12.out) 4).trans rfl, (blk_cell (blk_drew HX12.out) 5).trans rfl, (blk_cell (blk_drew HX12.out) 6).trans rfl, (blk_cell (blk_drew HX12.out) 7).trans rfl, (blk_cell (blk_drew HX12.out) 8).trans rfl, (blk_cell (blk_drew HX12.out) 9).trans rfl⟩
                clear hK zK hHeld
                have hHeld := hHeld2
                clear hHeld2
                try simp only [Act.put, List.setIfInBounds_toArray, List.set_cons_zero, List.set_cons_succ]
                refine take_at (i := 23) (take_d rfl) ?_
                intro h_i
                refine wpAnyH_take (v := ?_) h_i (by kernel_rfl) (by kernel_rfl) (by kernel_rfl) (fun _ _ _ h => h) (Or.inl ⟨by rfl, ?_⟩) (by assumption) ?_
                case refine_2 => (intro w hSw; (try dsimp only at hSw); go_simp; (try with_reducible rfl))
                clear h_i
                try simp only [Act.put, List.setIfInBounds_toArray, List.set_cons_zero, List.set_cons_succ]
                refine take_at (i := 24) (take_d rfl) ?_
                intro h_i
                refine wpAnyH_take (v := ?_) h_i (by kernel_rfl) (by kernel_rfl) (by kernel_rfl) (fun _ _ _ h => h) (Or.inl ⟨by rfl, ?_⟩) (by assumption) ?_
                case refine_2 => (intro w hSw; (try dsimp only at hSw); go_simp; (try with_reducible rfl))
                clear h_i
                try simp only [Act.put, List.setIfInBounds_toArray, List.set_cons_zero, List.set_cons_succ]
                refine take_at (i := 25) (take_d rfl) ?_
                intro h_i
                refine wpAnyH_take (v := ?_) h_i (by kernel_rfl) (by kernel_rfl) (by kernel_rfl) (fun _ _ _ h => h) (Or.inl ⟨by rfl, ?_⟩) (by assumption) ?_
                case refine_2 => (intro w hSw; (try dsimp only at hSw); go_simp; (try with_reducible rfl))
                clear h_i
                try simp only [Act.put, List.setIfInBounds_toArray, List.set_cons_zero, List.set_cons_succ]
                refine take_at (i := 26) (take_d rfl) ?_
                intro h_i
                refine wpAnyH_take (v := ?_) h_i (by kernel_rfl) (by kernel_rfl) (by kernel_rfl) (fun _ _ _ h => h) (Or.inl ⟨by rfl, ?_⟩) (by assumption) ?_
                case refine_2 => (intro w hSw; (try dsimp only at hSw); go_simp; (try with_reducible rfl))
                clear h_i
                try simp only [Act.put, List.setIfInBounds_toArray, List.set_cons_zero, List.set_cons_succ]
                refine take_at (i := 28) (take_d rfl) ?_
                intro h_i
                refine wpAnyH_take (v := ?_) h_i (by kernel_rfl) (by kernel_rfl) (by kernel_rfl) (fun _ _ _ h => h) (Or.inl ⟨by rfl, ?_⟩) (by assumption) ?_
                case refine_2 => (intro w hSw; (try dsimp only at hSw); go_simp; (try with_reducible rfl))
                clear h_i
                try simp only [Act.put, List.setIfInBounds_toArray, List.set_cons_zero, List.set_cons_succ]
                refine take_at (i := 29) (take_d rfl) ?_
                intro h_i
                refine wpAnyH_take (v := ?_) h_i (by kernel_rfl) (by kernel_rfl) (by kernel_rfl) (fun _ _ _ h => h) (Or.inl ⟨by rfl, ?_⟩) (by assumption) ?_
                case refine_2 => (intro w hSw; (try dsimp only at hSw); go_simp; (try with_reducible rfl))
                clear h_i
                try simp only [Act.put, List.setIfInBounds_toArray, List.set_cons_zero, List.set_cons_succ]
                refine wpAnyH_ready (rs := [27]) (by kernel_rfl) (by simp) ?_
                refine AllReadyH.cons (take_d rfl) (fun zK hK => ?_) AllReadyH.nil
                go_simp
                refine HLN.out.mono ?_
                rintro e wn ⟨rfl, rfl⟩
                go_wp2_with fail
                refine hK.out _ _ ?_ (fun hHeld2 => ?_)
                · exact ⟨(blk_cell (blk_drew HX12.out) 0).trans rfl, (blk_cell (blk_drew HX12.out) 1).trans rfl, (blk_cell (blk_drew HX12.out) 2).trans rfl, (blk_cell (blk_drew HX12.out) 3).trans rfl, (blk_cell (blk_drew HX12.out) 4).trans rfl, (blk_cell (blk_drew HX12.out) 5).trans rfl, (blk_cell (blk_drew HX12.out) 6).trans rfl, (blk_cell (blk_drew HX12.out) 7).trans rfl, (blk_cell (blk_drew HX12.out) 8).trans rfl, (blk_cell (blk_drew HX12.out) 9).trans rfl⟩
                clear hK zK hHeld
                have hHeld := hHeld2
                clear hHeld2
                try simp only [Act.put, List.setIfInBounds_toArray, List.set_cons_zero, List.set_cons_succ]
                refine wpAnyH_ready (rs := [30]) (by kernel_rfl) (by simp) ?_
                refine AllReadyH.cons (take_d rfl) (fun zK hK => ?_) AllReadyH.nil
                go_simp
                refine HL9.out.mono ?_
                rintro e w13 ⟨rfl, hb13⟩
                have HB13 := Aside0.mk ((below_drew (Below.refl w12.heap.size w12)).trans hb13)
                clear hb13
                go_wp2_with fail
                refine hK.out _ _ ?_ (fun hHeld2 => ?_)
                · exact ⟨(blk_cell (blk_below HX12.out HB13.out) 0).trans rfl, (blk_cell (blk_below HX12.out HB13.out) 1).trans rfl, (blk_cell (blk_below HX12.out HB13.out) 2).trans rfl, (blk_cell (blk_below HX12.out HB13.out) 3).trans rfl, (blk_cell (blk_below HX12.out HB13.out) 4).trans rfl, (blk_cell (blk_below HX12.out HB13.out) 5).trans rfl, (blk_cell (blk_below HX12.out HB13.out) 6).trans rfl, (blk_cell (blk_below HX12.out HB13.out) 7).trans rfl, (blk_cell (blk_below HX12.out HB13.out) 8).trans rfl, (blk_cell (blk_below HX12.out HB13.out) 9).trans rfl⟩
                clear hK zK hHeld
                have hHeld := hHeld2
                clear hHeld2
                try simp only [Act.put, List.setIfInBounds_toArray, List.set_cons_zero, List.set_cons_succ]
                refine take_at (i := 31) (take_d rfl) ?_
                intro h_i
                refine wpAnyH_take (v := ?_) h_i (by kernel_rfl) (by kernel_rfl) (by kernel_rfl) (fun _ _ _ h => h) (Or.inl ⟨by rfl, ?_⟩) (by assumption) ?_
                case refine_2 => (intro w hSw; (try dsimp only at hSw); go_simp; (try with_reducible rfl))
                clear h_i
                try simp only [Act.put, List.setIfInBounds_toArray, List.set_cons_zero, List.set_cons_succ]
                refine take_at (i := 32) (take_d rfl) ?_
                intro h_i
                refine wpAnyH_take (v := ?_) h_i (by kernel_rfl) (by kernel_rfl) (by kernel_rfl) (fun _ _ _ h => h) (Or.inl ⟨by rfl, ?_⟩) (by assumption) ?_
                case refine_2 => (intro w hSw; (try dsimp only at hSw); go_simp; (try with_reducible rfl))
                clear h_i
                try simp only [Act.put, List.setIfInBounds_toArray, List.set_cons_zero, List.set_cons_succ]
                refine take_at (i := 33) (take_d rfl) ?_
                intro h_i
                refine wpAnyH_take (v := ?_) h_i (by kernel_rfl) (by kernel_rfl) (by kernel_rfl) (fun _ _ _ h => h) (Or.inl ⟨by rfl, ?_⟩) (by assumption) ?_
                case refine_2 => (intro w hSw; (try dsimp only at hSw); go_simp; (try with_reducible rfl))
                clear h_i
                try simp only [Act.put, List.setIfInBounds_toArray, List.set_cons_zero, List.set_cons_succ]
                refine take_at (i := 34) (take_d rfl) ?_
                intro h_i
                refine wpAnyH_take (v := ?_) h_i (by kernel_rfl) (by kernel_rfl) (by kernel_rfl) (fun _ _ _ h => h) (Or.inl ⟨by rfl, ?_⟩) (by assumption) ?_
                case refine_2 => (intro w hSw; (try dsimp only at hSw); go_simp; (try with_reducible rfl))
                clear h_i
                try simp only [Act.put, List.setIfInBounds_toArray, List.set_cons_zero, List.set_cons_succ]
                refine take_at (i := 36) (take_d rfl) ?_
                intro h_i
                refine wpAnyH_take (v := ?_) h_i (by kernel_rfl) (by kernel_rfl) (by kernel_rfl) (fun _ _ _ h => h) (Or.inl ⟨by rfl, ?_⟩) (by assumption) ?_
                case refine_2 => (intro w hSw; (try dsimp only at hSw); go_simp; (try with_reducible rfl))
                clear h_i
                try simp only [Act.put, List.setIfInBounds_toArray, List.set_cons_zero, List.set_cons_succ]
                refine wpAnyH_ready (rs := [35]) (by kernel_rfl) (by simp) ?_
                refine AllReadyH.cons (take_d rfl) (fun zK hK => ?_) AllReadyH.nil
                go_simp
                refine (HFN.out _ HB13.out).mono ?_
                rintro e w14 ⟨F14, d14, rfl, hd14, hC14, hb14⟩
                have HB14 := Aside0.mk (HB13.out.trans (hb14.mono HB13.out.size))
                have HF14 := Aside0.mk (And.intro hd14 hC14)
                clear hb14 hd14 hC14
                go_wp2_with fail
                refine hK.out _ _ ?_ (fun hHeld2 => ?_)
                · exact ⟨(blk_cell (blk_below HX12.out HB14.out) 0).trans rfl, (blk_cell (blk_below HX12.out HB14.out) 1).trans rfl, (blk_cell (blk_below HX12.out HB14.out) 2).trans rfl, (blk_cell (blk_below HX12.out HB14.out) 3).trans rfl, (blk_cell (blk_below HX12.out HB14.out) 4).trans rfl, (blk_cell (blk_below HX12.out HB14.out) 5).trans rfl, (blk_cell (blk_below HX12.out HB14.out) 6).trans rfl, (blk_cell (blk_below HX12.out HB14.out) 7).trans rfl, (blk_cell (blk_below HX12.out HB14.out) 8).trans rfl, (blk_cell (blk_below HX12.out HB14.out) 9).trans rfl⟩
                clear hK zK hHeld
                have hHeld := hHeld2
                clear hHeld2
                try simp only [Act.put, List.setIfInBounds_toArray, List.set_cons_zero, List.set_cons_succ]
                refine wpAnyH_ready (rs := [37]) (by kernel_rfl) (by simp) ?_
                refine AllReadyH.cons (take_d rfl) (fun zK hK => ?_) AllReadyH.nil
                go_simp
                refine (catchpitref05_Fields.calls 1000001 F14 d14 ([] : List Fld) none 0 [] true w14 HF14.out.2 HF14.out.1 ⟨rfl, Nat.zero_le _, fun h => absurd h (Nat.lt_irrefl _)⟩ (Nat.zero_le _) (HG.out _ (B12.out.trans (HB14.out.mono B12.out.size))) (FieldsM_eq _ (by simp) _ (by simp))).mono ?_
                rintro e w15 ⟨rfl, hd15⟩
                have HB15 := Aside0.mk (HB14.out.trans (hd15.below.mono HB14.out.size))
                clear hd15
                go_wp2_with fail
                refine hK.out _ _ ?_ (fun hHeld2 => ?_)
                · exact ⟨(blk_cell (blk_below HX12.out HB15.out) 0).trans rfl, (blk_cell (blk_below HX12.out HB15.out) 1).trans rfl, (blk_cell (blk_below HX12.out HB15.out) 2).trans rfl, (blk_cell (blk_below HX12.out HB15.out) 3).trans rfl, (blk_cell (blk_below HX12.out HB15.out) 4).trans rfl, (blk_cell (blk_below HX12.out HB15.out) 5).trans rfl, (blk_cell (blk_below HX12.out HB15.out) 6).trans rfl, (blk_cell (blk_below HX12.out HB15.out) 7).trans rfl, (blk_cell (blk_below HX12.out HB15.out) 8).trans rfl, (blk_cell (blk_below HX12.out HB15.out) 9).trans rfl⟩
                clear hK zK hHeld
                have hHeld := hHeld2
                clear hHeld2
                try simp only [Act.put, List.setIfInBounds_toArray, List.set_cons_zero, List.set_cons_succ]
                refine take_at (i := 38) (take_d rfl) ?_
                intro h_i
                refine wpAnyH_take (v := ?_) h_i (by kernel_rfl) (by kernel_rfl) (by kernel_rfl) (fun _ _ _ h => h) (Or.inl ⟨by rfl, ?_⟩) (by assumption) ?_
                case refine_2 => (intro w hSw; (try dsimp only at hSw); go_simp; (try with_reducible rfl))
                clear h_i
                try simp only [Act.put, List.setIfInBounds_toArray, List.set_cons_zero, List.set_cons_succ]
                refine take_at (i := 39) (take_d rfl) ?_
                intro h_i
                refine wpAnyH_take (v := ?_) h_i (by kernel_rfl) (by kernel_rfl) (by kernel_rfl) (fun _ _ _ h => h) (Or.inl ⟨by rfl, ?_⟩) (by assumption) ?_
                case refine_2 => (intro w hSw; (try dsimp only at hSw); go_simp; (try with_reducible rfl))
                clear h_i
                try simp only [Act.put, List.setIfInBounds_toArray, List.set_cons_zero, List.set_cons_succ]
                refine wpAnyH_done (by kernel_rfl) ?_ _
                go_wp2_with fail
                go_roundw
                case rel =>
                  have hk1 := HK1.out
                  refine ⟨k1, a7, Y6, er6, co6, .slice A12 a7 c12, lv6, fv6, Z0, Z1, i0, i1, rfl, rfl, rfl, by omega, ⟨⟨?_, ?_, ?_, ?_, ?_, blk_below HX12.out HB15.out, ?_, ?_, ?_, ?_, HZ.out.1, HZ.out.2.1, ?_⟩⟩⟩
                  · rw [HED.out]
                    exact AC.out.below HB15.out
                  · exact ((MB.out.trans (Moves.of_below HB11.out)).grow HG12.out (fun x hx => (RB.out.at x hx).1)).trans (Moves.of_below HB15.out)
                  · exact ((BBt.out.trans (HB11.out.mono (Nat.le_trans HS9.out BBt.out.size))).trans (HB12.out.mono HS9.out)).trans (HB15.out.mono (Nat.le_trans (Nat.le_trans HS9.out BBt.out.size) HL12.out))
                  · rw [HFL.out, ← HA7.out, take_app9, HA7.out]
                    exact (HR12.out.moves (Moves.of_below (S := fun _ => False) HB15.out) (fun _ _ h => h)).1
                  · intro x hx hs
                    rcases HT12.out x hx with h | h
                    · exact DB.out x h hs
                    · have := AB.out.own_lt hs
                      have := HB11.out.size
                      omega
                  · rw [HFL.out, HTPE.out]
                    exact HRN.out
                  · exact fun h => absurd h h64
                  · rw [HFL.out, List.length_append]
                    have := HA7.out
                    omega
                  · have := HA7.out
                    rw [HD6.out, List.length_append]
                    omega
                  · refine fun _ => ⟨Kd.C_below HFROW.out HB15.out, fun hp ad e => ⟨fun hs => ?_, fun hs => ?_, fun hs => ?_⟩⟩
                    · have h1 := HFR.out ad e
                      have h2 := HA6.out.own_lt hs
                      have := HNA.out
                      omega
                    · have h1 := HFR.out ad e
                      have hc := CF.out
                      rw [e] at hc
                      have h4 := CF_lt hc hp
                      have := HNA.out
                      rcases HT12.out _ hs with h | h
                      · obtain ⟨_, cs, hcs⟩ := HRW.out.1.at _ h
                        have := blk_lt hcs
                        omega
                      · have := HB11.out.size
                        omega
                    · have h1 := HFR.out ad e
                      have h2 := blk_lt HX6.out
                      have := HNA.out
                      omega
                case measure =>
                  have hk1 := HK1.out
                  simp [intOf]
                  omega
          · have hed : errD er = er := if_neg he4
            have hat := HQ.out.at_
            rw [hed] at hat
            have hpl0 := run_place (E := envM e0 e1 e2) T 0 minit (by decide)
            rw [HQ.out.run] at hpl0
            dsimp only at hpl0
            have HP := Aside0.mk (put_ended BB b e0 e1 e2 Y co lv fv a Y.data.length er Ap p.length cp wr hat (by by_cases h : er = 0; exact .inr (hpl0.1 h); exact .inl h) (by omega) (by omega) (by omega))
            have HNX := Aside0.mk (show mrun (envM e0 e1 e2) minit (T ++ p) 0 = (Y, a, er) by
              rw [run_append, HQ.out.run]
              dsimp only
              rw [if_neg (fun h => he4 h.1)])
            have HPL := Aside0.mk hpl0
            have HRF := Aside0.mk (HQ.out.rf he4)
            have HED := Aside0.mk hed
            have HE4 := Aside0.mk he4
            have he4' : (er == 4) = false := by rw [beq_eq_false_iff_ne]; exact he4
            have hn4 : (er != 4) = true := by rw [bne_iff_ne]; exact he4
            clear hat hpl0 hed
            go_wp2_with fail
            refine HP.out.mono ?_
            rintro e w6 ⟨rfl, hat6, ho6⟩
            have HX6 := Aside0.mk (ho6.blk HQ.out.x (fun e => HXB.out (.inl e)))
            have HA6 := Aside0.mk hat6
            have M6 := Aside0.mk (Moves.of_only (S := Own3 b lv fv) ho6 (.inl rfl))
            have HRW := Aside0.mk (HQ.out.row.moves M6.out HQ.out.dis)
            have CF6 := Aside0.mk (CF_moves M6.out HRF.out.1 (fun hp ad e => (HRF.out.2 hp ad e).1))
            have HB6 := Aside0.mk (show Below BB wr w6 from ho6.1.mono HQ.out.at_.hb)
            have hx6 := HX6.out
            have xx0 : w6.cell? ⟨bx, 0, none⟩ = some (Value.int .i64 (Y.place : Int)) := (blk_cell hx6 0).trans rfl
            have xx1 : w6.cell? ⟨bx, 1, none⟩ = some (Value.int .u64 (Y.n : Int)) := (blk_cell hx6 1).trans rfl
            have xx2 : w6.cell? ⟨bx, 2, none⟩ = some (Value.int .i64 (Y.count : Int)) := (blk_cell hx6 2).trans rfl
            have xx3 : w6.cell? ⟨bx, 3, none⟩ = some (Value.int .i64 (Y.lines : Int)) := (blk_cell hx6 3).trans rfl
            have xx4 : w6.cell? ⟨bx, 4, none⟩ = some (Value.int .i64 (Y.size : Int)) := (blk_cell hx6 4).trans rfl
            have xx5 : w6.cell? ⟨bx, 5, none⟩ = some (Value.string (strOfNums Y.text)) := (blk_cell hx6 5).trans rfl
            have xx6 : w6.cell? ⟨bx, 6, none⟩ = some (Value.slice X0 Y.data.length j0) := (blk_cell hx6 6).trans rfl
            have xx7 : w6.cell? ⟨bx, 7, none⟩ = some (Value.slice X1 Y.fields.length j1) := (blk_cell hx6 7).trans rfl
            have xx8 : w6.cell? ⟨bx, 8, none⟩ = some (Value.int .i64 (a : Int)) := (blk_cell hx6 8).trans rfl
            have xx9 : w6.cell? ⟨bx, 9, none⟩ = some (Value.int .i64 er) := (blk_cell hx6 9).trans rfl
            clear hx6 hat6 ho6 HP hcp
            go_upto_region 26 with (fail)
            obtain ⟨wB, hwB⟩ : ∃ wB, w6.alloc (.cells #[Value.int .i64 (Y.place : Int), Value.int .u64 (Y.n : Int), Value.int .i64 (Y.count : Int), Value.int .i64 (Y.lines : Int), Value.int .i64 (Y.size : Int), Value.string (strOfNums Y.text), Value.slice X0 Y.data.length j0, Value.slice X1 Y.fields.length j1, Value.int .i64 (a : Int), Value.int .i64 er] 41) = wB := ⟨_, rfl⟩
            have HBA := Aside0.mk (show Below w6.heap.size w6 wB by rw [← hwB]; exact below_alloc (Below.refl _ _) _)
            have HWS := Aside0.mk (show wB.heap[w6.heap.size]? = some (.cells #[Value.int .i64 (Y.place : Int), Value.int .u64 (Y.n : Int), Value.int .i64 (Y.count : Int), Value.int .i64 (Y.lines : Int), Value.int .i64 (Y.size : Int), Value.string (strOfNums Y.text), Value.slice X0 Y.data.length j0, Value.slice X1 Y.fields.length j1, Value.int .i64 (a : Int), Value.int .i64 er] 41 (0, 0)) by rw [← hwB]; exact World.alloc_heap_new w6 _)
            rw [hwB]
            clear hwB xx0 xx1 xx2 xx3 xx4 xx5 xx6 xx7 xx8 xx9
            have HBB6 := Aside0.mk (Nat.le_trans HBr.out M6.out.sz)
            have XB := Aside0.mk (blk_below HX6.out HBA.out)
            have AB := Aside0.mk (HA6.out.below HBA.out)
            have RB := Aside0.mk (HRW.out.1.moves (Moves.of_below (S := fun _ => False) HBA.out) (fun _ _ h => h)).1
            have DB := Aside0.mk HRW.out.2
            have CF := Aside0.mk (Kd.C_below CF6.out HBA.out)
            have MB := Aside0.mk ((HQ.out.m.trans (M6.out.lift (R := fun x => x = bx))).trans (Moves.of_below HBA.out))
            have BBt := Aside0.mk ((HQ.out.bl.trans HB6.out).trans (HBA.out.mono HBB6.out))
            have HW9 := Aside0.mk (show wB.cell? ⟨w6.heap.size, 9, none⟩ = some (.int .i64 er) from (blk_cell HWS.out 9).trans rfl)
            by_cases h60 : er = 0
            · subst h60
              clear he4' hn4 HE4 he4
              have hx := XB.out
              have xk0 : wB.cell? ⟨bx, 0, none⟩ = some (Value.int .i64 (Y.place : Int)) := (blk_cell hx 0).trans rfl
              have xk1 : wB.cell? ⟨bx, 1, none⟩ = some (Value.int .u64 (Y.n : Int)) := (blk_cell hx 1).trans rfl
              have xk2 : wB.cell? ⟨bx, 2, none⟩ = some (Value.int .i64 (Y.count : Int)) := (blk_cell hx 2).trans rfl
              have xk3 : wB.cell? ⟨bx, 3, none⟩ = some (Value.int .i64 (Y.lines : Int)) := (blk_cell hx 3).trans rfl
              have xk4 : wB.cell? ⟨bx, 4, none⟩ = some (Value.int .i64 (Y.size : Int)) := (blk_cell hx 4).trans rfl
              have xk5 : wB.cell? ⟨bx, 5, none⟩ = some (Value.string (strOfNums Y.text)) := (blk_cell hx 5).trans rfl
              have xk6 : wB.cell? ⟨bx, 6, none⟩ = some (Value.slice X0 Y.data.length j0) := (blk_cell hx 6).trans rfl
              have xk7 : wB.cell? ⟨bx, 7, none⟩ = some (Value.slice X1 Y.fields.length j1) := (blk_cell hx 7).trans rfl
              have xk8 : wB.cell? ⟨bx, 8, none⟩ = some (Value.int .i64 (a : Int)) := (blk_cell hx 8).trans rfl
              have xk9 : wB.cell? ⟨bx, 9, none⟩ = some (Value.int .i64 0) := (blk_cell hx 9).trans rfl
              have kw9 := HW9.out
              have hwa : IntKind.i64.wrap ((a : Int) - (a : Int)) = 0 := by
                rw [Int.sub_self]
                rfl
              obtain ⟨Zm, im, hcf, hcm⟩ : ∃ Zm im, (∀ W : World, (Instr.slice 24 (.slice X0 Y.data.length j0) (some (.int .i64 (Y.data.length : Int))) none none).run Tryd.prog W = .ok (.slice Zm 0 im) W) ∧ Aside0 (Kd.C (Kd.int .u8) wB Zm 0 []) := by
                have hq : (Tryd.prog.info? 5).map (fun i => i.size) = some 1 := by kernel_rfl
                obtain ⟨i9, hi9, hsz9⟩ := Option.map_eq_some_iff.1 hq
                have h1 := cut_from (P := Tryd.prog) 24 5 .i64 Tryd.underlying24 hi9 1 hsz9 X0 Y.data.length j0 (Y.data.length : Int) (by omega) (by omega)
                rw [Int.toNat_natCast, Nat.sub_self] at h1
                exact ⟨_, _, h1, ⟨⟨rfl, Nat.zero_le _, fun h => absurd h (Nat.lt_irrefl _)⟩⟩⟩
              have hq0 : (Tryd.prog.info? 5).map (fun i => i.size) = some 1 := by kernel_rfl
              obtain ⟨i8, hi8, hsz8⟩ := Option.map_eq_some_iff.1 hq0
              have hct := cut_to (P := Tryd.prog) 24 5 .i64 Tryd.underlying24 hi8 Ap p.length cp (0 : Int) (by omega) (by omega) hle
              rw [Int.toNat_zero] at hct
              have HSM := Aside0.mk (catchpitref08_Same.calls 1000001 none 0 [] Zm im [] true wB ⟨rfl, Nat.zero_le _, fun h => absurd h (Nat.lt_irrefl _)⟩ (Nat.zero_le _) hcm.out (Nat.zero_le _) (HG.out _ (B9.out.trans (BBt.out.mono HWB.out))) (by rw [Same8_eq _ _ (by simp) _ (by simp), decide_eq_true rfl]))
              clear hx hq0 hi8 hsz8
              go_wp2_with fail
              refine HSM.out.mono ?_
              rintro e w11 ⟨rfl, hd11⟩
              have HB11 := Aside0.mk hd11.below
              clear hd11 HSM hcf xk0 xk1 xk2 xk3 xk4 xk5 xk6 xk7 xk8 xk9 kw9
              have hx := blk_below XB.out HB11.out
              have xk0 : w11.cell? ⟨bx, 0, none⟩ = some (Value.int .i64 (Y.place : Int)) := (blk_cell hx 0).trans rfl
              have xk1 : w11.cell? ⟨bx, 1, none⟩ = some (Value.int .u64 (Y.n : Int)) := (blk_cell hx 1).trans rfl
              have xk2 : w11.cell? ⟨bx, 2, none⟩ = some (Value.int .i64 (Y.count : Int)) := (blk_cell hx 2).trans rfl
              have xk3 : w11.cell? ⟨bx, 3, none⟩ = some (Value.int .i64 (Y.lines : Int)) := (blk_cell hx 3).trans rfl
              have xk4 : w11.cell? ⟨bx, 4, none⟩ = some (Value.int .i64 (Y.size : Int)) := (blk_cell hx 4).trans rfl
              have xk5 : w11.cell? ⟨bx, 5, none⟩ = some (Value.string (strOfNums Y.text)) := (blk_cell hx 5).trans rfl
              have xk6 : w11.cell? ⟨bx, 6, none⟩ = some (Value.slice X0 Y.data.length j0) := (blk_cell hx 6).trans rfl
              have xk7 : w11.cell? ⟨bx, 7, none⟩ = some (Value.slice X1 Y.fields.length j1) := (blk_cell hx 7).trans rfl
              have xk8 : w11.cell? ⟨bx, 8, none⟩ = some (Value.int .i64 (a : Int)) := (blk_cell hx 8).trans rfl
              have xk9 : w11.cell? ⟨bx, 9, none⟩ = some (Value.int .i64 0) := (blk_cell hx 9).trans rfl
              clear hx
              have RB1 := Aside0.mk (show RowD w11 w9.heap.size (.slice Ao a cO) (List.take a T) from (RB.out.moves (Moves.of_below (S := fun _ => False) HB11.out) (fun _ _ h => h)).1)
              have HPT := Aside0.mk (show Kd.C (Kd.int .u8) w11 Ap 0 [] from Kd.C_take (m := 0) (HPW.out w11 ((B9.out.trans (BBt.out.mono HWB.out)).trans (HB11.out.mono (Nat.le_trans B9.out.size BBt.out.size)))) (Nat.zero_le _))
              have hw911 : w9.heap.size ≤ w11.heap.size := Nat.le_trans MB.out.sz HB11.out.size
              have hlo : (List.take a T).length + ([] : List Int).length ≤ 140737488355328 := by rw [hla]; simp only [List.length_nil]; omega
              have HLA := Aside0.mk hla
              go_wp2_with ((with_reducible refine gate_builtin (b := .append) (xs := #[.tmp 120, .tmp 123]) rfl ?_); at_builtin; refine list_plusD w9.heap.size rfl (.tmp 120) (.tmp 123) 24 (.int .u8 0) rfl Tryd.underlying24 info5 rfl (.slice Ao a cO) (List.take a T) [] Ap cp rfl rfl RB1.out HPT.out hw911 hlo ?_; intro v12 w12 hr12 hb12 hg12 hat12; obtain ⟨A12, c12, q12, _, _⟩ := hr12.reads; rw [show (List.take a T ++ ([] : List Int)).length = a from by rw [List.append_nil]; exact HLA.out] at q12; subst q12; have HR12 := Aside0.mk hr12; have HB12 := Aside0.mk hb12; have HG12 := Aside0.mk hg12; have HT12 := Aside0.mk hat12; have hx12 := (hg12.block bx (Nat.lt_of_lt_of_le (blk_lt XB.out) HB11.out.size) (fun e => RB1.out.not_got (blk_below XB.out HB11.out) e.symm)).trans (blk_below XB.out HB11.out); have HX12 := Aside0.mk hx12; clear xk0 xk1 xk2 xk3 xk4 xk5 xk6 xk7 xk8 xk9; have xk0 : w12.cell? ⟨bx, 0, none⟩ = some (Value.int .i64 (Y.place : Int)) := (blk_cell hx12 0).trans rfl; have xk1 : w12.cell? ⟨bx, 1, none⟩ = some (Value.int .u64 (Y.n : Int)) := (blk_cell hx12 1).trans rfl; have xk2 : w12.cell? ⟨bx, 2, none⟩ = some (Value.int .i64 (Y.count : Int)) := (blk_cell hx12 2).trans rfl; have xk3 : w12.cell? ⟨bx, 3, none⟩ = some (Value.int .i64 (Y.lines : Int)) := (blk_cell hx12 3).trans rfl; have xk4 : w12.cell? ⟨bx, 4, none⟩ = some (Value.int .i64 (Y.size : Int)) := (blk_cell hx12 4).trans rfl; have xk5 : w12.cell? ⟨bx, 5, none⟩ = some (Value.string (strOfNums Y.text)) := (blk_cell hx12 5).trans rfl; have xk6 : w12.cell? ⟨bx, 6, none⟩ = some (Value.slice X0 Y.data.length j0) := (blk_cell hx12 6).trans rfl; have xk7 : w12.cell? ⟨bx, 7, none⟩ = some (Value.slice X1 Y.fields.length j1) := (blk_cell hx12 7).trans rfl; have xk8 : w12.cell? ⟨bx, 8, none⟩ = some (Value.int .i64 (a : Int)) := (blk_cell hx12 8).trans rfl; have xk9 : w12.cell? ⟨bx, 9, none⟩ = some (Value.int .i64 0) := (blk_cell hx12 9).trans rfl; clear hr12 hb12 hg12 hat12 hx12)
              have HL12 := Aside0.mk (show wB.heap.size ≤ w12.heap.size from Nat.le_trans HB11.out.size HG12.out.size)
              have DB11 := Aside0.mk (show ∀ x, (Value.slice Ao a cO).ownBlock = some x → ¬ Own3 b lv fv x from DB.out)
              have AC := Aside0.mk ((AB.out.below HB11.out).grow HG12.out DB11.out)
              have ACd := Aside0.mk (AC.out.below (below_drew (Below.refl w12.heap.size w12)))
              have B12 := Aside0.mk (((B9.out.trans (BBt.out.mono HWB.out)).trans (HB11.out.mono (Nat.le_trans B9.out.size BBt.out.size))).trans (HB12.out.mono B9.out.size))
              have HDN := Aside0.mk (done_calls BB b e0 e1 e2 Y co lv fv a Y.data.length 0 w12.drew ACd.out)
              have HEN := Aside0.mk (err_calls BB b e0 e1 e2 Y co lv fv a Y.data.length 0 w12.drew ACd.out)
              have HTN := Aside0.mk (taken_calls BB b e0 e1 e2 Y co lv fv a Y.data.length 0 w12.drew ACd.out)
              have HGN := Aside0.mk (given_calls BB b e0 e1 e2 Y co lv fv a Y.data.length 0 w12.drew ACd.out)
              have HLN := Aside0.mk (left_calls BB b e0 e1 e2 Y co lv fv a Y.data.length 0 w12.drew ACd.out)
              have HL9 := Aside0.mk (left9_calls Y X0 X1 Y.data.length Y.fields.length j0 j1 w12.drew)
              generalize hqn : (if Y.place = 3 then (Y.n : Int) else 0) = qn at *
              have HFB6 := Aside0.mk (show Y.fields.length ≤ 1000 by
                have := run_dataLen (E := envM e0 e1 e2) T 0 minit
                rw [HQ.out.run] at this
                simp [minit] at this
                omega)
              have HFN := Aside0.mk (fun W' (hb : Below w12.heap.size w12 W') => fields_calls BB b e0 e1 e2 Y co lv fv a Y.data.length 0 W' (AC.out.below hb) (Nat.le_trans HFB6.out (by decide)))
              have hp11 : Y.place = 11 := HPL.out.1 (by first | rfl | trivial)
              have hpb : ((Y.place : Int) == 11) = true := by rw [beq_iff_eq]; omega
              rw [hpb] at HDN
              rw [if_pos hp11] at HFN
              have HFROW := Aside0.mk (show Kd.C k53 w12 X1 Y.fields.length Y.fields from CF_moves (moves_grown HG12.out) (Kd.C_below CF.out HB11.out) (fun hp ad e h => (HRF.out.2 hp ad e).2.1 h))
              clear hp11 hpb hqn
              refine wp_region_held_drew (S := (fun W => W.cell? ⟨bx, 0, none⟩ = some (Value.int .i64 (Y.place : Int)) ∧ W.cell? ⟨bx, 1, none⟩ = some (Value.int .u64 (Y.n : Int)) ∧ W.cell? ⟨bx, 2, none⟩ = some (Value.int .i64 (Y.count : Int)) ∧ W.cell? ⟨bx, 3, none⟩ = some (Value.int .i64 (Y.lines : Int)) ∧ W.cell? ⟨bx, 4, none⟩ = some (Value.int .i64 (Y.size : Int)) ∧ W.cell? ⟨bx, 5, none⟩ = some (Value.string (strOfNums Y.text)) ∧ W.cell? ⟨bx, 6, none⟩ = some (Value.slice X0 Y.data.length j0) ∧ W.cell? ⟨bx, 7, none⟩ = some (Value.slice X1 Y.fields.length j1) ∧ W.cell? ⟨bx, 8, none⟩ = some (Value.int .i64 (a : Int)) ∧ W.cell? ⟨bx, 9, none⟩ = some (Value.int .i64 0))) (by kernel_rfl) ?_ (fun hHeld => ?_)
              · exact ⟨(blk_cell (blk_drew HX12.out) 0).trans rfl, (blk_cell (blk_drew HX12.out) 1).trans rfl, (blk_cell (blk_drew HX12.out) 2).trans rfl, (blk_cell (blk_drew HX12.out) 3).trans rfl, (blk_cell (blk_drew HX12.out) 4).trans rfl, (blk_cell (blk_drew HX12.out) 5).trans rfl, (blk_cell (blk_drew HX12.out) 6).trans rfl, (blk_cell (blk_drew HX12.out) 7).trans rfl, (blk_cell (blk_drew HX12.out) 8).trans rfl, (blk_cell (blk_drew HX12.out) 9).trans rfl⟩
              refine take_at (i := 0) (take_d rfl) ?_
              intro h_i
              refine wpAnyH_take (v := ?_) h_i (by kernel_rfl) (by kernel_rfl) (by kernel_rfl) (fun _ _ _ h => h) (Or.inl ⟨by rfl, ?_⟩) (by assumption) ?_
              case refine_2 => (intro w hSw; (try dsimp only at hSw); go_simp; (try with_reducible rfl))
              clear h_i
              try simp only [Act.put, List.setIfInBounds_toArray, List.set_cons_zero, List.set_cons_succ]
              refine take_at (i := 2) (take_d rfl) ?_
              intro h_i
              refine wpAnyH_take (v := ?_) h_i (by kernel_rfl) (by kernel_rfl) (by kernel_rfl) (fun _ _ _ h => h) (Or.inl ⟨by rfl, ?_⟩) (by assumption) ?_
              case refine_2 => (intro w hSw; (try dsimp only at hSw); go_simp; (try with_reducible rfl))
              clear h_i
              try simp only [Act.put, List.setIfInBounds_toArray, List.set_cons_zero, List.set_cons_succ]
              refine take_at (i := 3) (take_d rfl) ?_
              intro h_i
              refine wpAnyH_take (v := ?_) h_i (by kernel_rfl) (by kernel_rfl) (by kernel_rfl) (fun _ _ _ h => h) (Or.inl ⟨by rfl, ?_⟩) (by assumption) ?_
              case refine_2 => (intro w hSw; (try dsimp only at hSw); go_simp; (try with_reducible rfl))
              clear h_i
              try simp only [Act.put, List.setIfInBounds_toArray, List.set_cons_zero, List.set_cons_succ]
              refine take_at (i := 4) (take_d rfl) ?_
              intro h_i
              refine wpAnyH_take (v := ?_) h_i (by kernel_rfl) (by kernel_rfl) (by kernel_rfl) (fun _ _ _ h => h) (Or.inl ⟨by rfl, ?_⟩) (by assumption) ?_
              case refine_2 => (intro w hSw; (try dsimp only at hSw); go_simp; (try with_reducible rfl))
              clear h_i
              try simp only [Act.put, List.setIfInBounds_toArray, List.set_cons_zero, List.set_cons_succ]
              refine wpAnyH_ready (rs := [1]) (by kernel_rfl) (by simp) ?_
              refine AllReadyH.cons (take_d rfl) (fun zK hK => ?_) AllReadyH.nil
              go_simp
              refine HDN.out.mono ?_
              rintro e wn ⟨rfl, rfl⟩
              go_wp2_with fail
              refine hK.out _ _ ?_ (fun hHeld2 => ?_)
              · exact ⟨(blk_cell (blk_drew HX12.out) 0).trans rfl, (blk_cell (blk_drew HX12.out) 1).trans rfl, (blk_cell (blk_drew HX12.out) 2).trans rfl, (blk_cell (blk_drew HX12.out) 3).trans rfl, (blk_cell (blk_drew HX12.out) 4).trans rfl, (blk_cell (blk_drew HX12.out) 5).trans rfl, (blk_cell (blk_drew HX12.out) 6).trans rfl, (blk_cell (blk_drew HX12.out) 7).trans rfl, (blk_cell (blk_drew HX12.out) 8).trans rfl, (blk_cell (blk_drew HX12.out) 9).trans rfl⟩
              clear hK zK hHeld
              have hHeld := hHeld2
              clear hHeld2
              try simp only [Act.put, List.setIfInBounds_toArray, List.set_cons_zero, List.set_cons_succ]
              refine take_at (i := 5) (take_d rfl) ?_
              intro h_i
              refine wpAnyH_take (v := ?_) h_i (by kernel_rfl) (by kernel_rfl) (by kernel_rfl) (fun _ _ _ h => h) (Or.inl ⟨by rfl, ?_⟩) (by assumption) ?_
              case refine_2 => (intro w hSw; (try dsimp only at hSw); go_simp; (try with_reducible rfl))
              clear h_i
              try simp only [Act.put, List.setIfInBounds_toArray, List.set_cons_zero, List.set_cons_succ]
              refine take_at (i := 6) (take_d rfl) ?_
              intro h_i
              refine wpAnyH_take (v := ?_) h_i (by kernel_rfl) (by kernel_rfl) (by kernel_rfl) (fun _ _ _ h => h) (Or.inl ⟨by rfl, ?_⟩) (by assumption) ?_
              case refine_2 => (intro w hSw; (try dsimp only at hSw); go_simp; (try with_reducible rfl))
              clear h_i
              try simp only [Act.put, List.setIfInBounds_toArray, List.set_cons_zero, List.set_cons_succ]
              refine take_at (i := 7) (take_d rfl) ?_
              intro h_i
              refine wpAnyH_take (v := ?_) h_i (by kernel_rfl) (by kernel_rfl) (by kernel_rfl) (fun _ _ _ h => h) (Or.inl ⟨by rfl, ?_⟩) (by assumption) ?_
              case refine_2 => (intro w hSw; (try dsimp only at hSw); go_simp; (try with_reducible rfl))
              clear h_i
              try simp only [Act.put, List.setIfInBounds_toArray, List.set_cons_zero, List.set_cons_succ]
              refine take_at (i := 9) (take_d rfl) ?_
              intro h_i
              refine wpAnyH_take (v := ?_) h_i (by kernel_rfl) (by kernel_rfl) (by kernel_rfl) (fun _ _ _ h => h) (Or.inl ⟨by rfl, ?_⟩) (by assumption) ?_
              case refine_2 => (intro w hSw; (try dsimp only at hSw); go_simp; (try with_reducible rfl))
              clear h_i
              try simp only [Act.put, List.setIfInBounds_toArray, List.set_cons_zero, List.set_cons_succ]
              refine wpAnyH_ready (rs := [8]) (by kernel_rfl) (by simp) ?_
              refine AllReadyH.cons (take_d rfl) (fun zK hK => ?_) AllReadyH.nil
              go_simp
              refine HEN.out.mono ?_
              rintro e wn ⟨rfl, rfl⟩
              go_wp2_with fail
              refine hK.out _ _ ?_ (fun hHeld2 => ?_)
              · exact ⟨(blk_cell (blk_drew HX12.out) 0).trans rfl, (blk_cell (blk_drew HX12.out) 1).trans rfl, (blk_cell (blk_drew HX12.out) 2).trans rfl, (blk_cell (blk_drew HX12.out) 3).trans rfl, (blk_cell (blk_drew HX12.out) 4).trans rfl, (blk_cell (blk_drew HX12.out) 5).trans rfl, (blk_cell (blk_drew HX12.out) 6).trans rfl, (blk_cell (blk_drew HX12.out) 7).trans rfl, (blk_cell (blk_drew HX12.out) 8).trans rfl, (blk_cell (blk_drew HX12.out) 9).trans rfl⟩
              clear hK zK hHeld
              have hHeld := hHeld2
              clear hHeld2
              try simp only [Act.put, List.setIfInBounds_toArray, List.set_cons_zero, List.set_cons_succ]
              refine take_at (i := 10) (take_d rfl) ?_
              intro h_i
              refine wpAnyH_take (v := ?_) h_i (by kernel_rfl) (by kernel_rfl) (by kernel_rfl) (fun _ _ _ h => h) (Or.inl ⟨by rfl, ?_⟩) (by assumption) ?_
              case refine_2 => (intro w hSw; (try dsimp only at hSw); go_simp; (try with_reducible rfl))
              clear h_i
              try simp only [Act.put, List.setIfInBounds_toArray, List.set_cons_zero, List.set_cons_succ]
              refine take_at (i := 11) (take_d rfl) ?_
              intro h_i
              refine wpAnyH_take (v := ?_) h_i (by kernel_rfl) (by kernel_rfl) (by kernel_rfl) (fun _ _ _ h => h) (Or.inl ⟨by rfl, ?_⟩) (by assumption) ?_
              case refine_2 => (intro w hSw; (try dsimp only at hSw); go_simp; (try with_reducible rfl))
              clear h_i
              try simp only [Act.put, List.setIfInBounds_toArray, List.set_cons_zero, List.set_cons_succ]
              refine take_at (i := 12) (take_d rfl) ?_
              intro h_i
              refine wpAnyH_take (v := ?_) h_i (by kernel_rfl) (by kernel_rfl) (by kernel_rfl) (fun _ _ _ h => h) (Or.inl ⟨by rfl, ?_⟩) (by assumption) ?_
              case refine_2 => (intro w hSw; (try dsimp only at hSw); go_simp; (try with_reducible rfl))
              clear h_i
              try simp only [Act.put, List.setIfInBounds_toArray, List.set_cons_zero, List.set_cons_succ]
              refine take_at (i := 13) (take_d rfl) ?_
              intro h_i
              refine wpAnyH_take (v := ?_) h_i (by kernel_rfl) (by kernel_rfl) (by kernel_rfl) (fun _ _ _ h => h) (Or.inl ⟨by rfl, ?_⟩) (by assumption) ?_
              case refine_2 => (intro w hSw; (try dsimp only at hSw); go_simp; (try with_reducible rfl))
              clear h_i
              try simp only [Act.put, List.setIfInBounds_toArray, List.set_cons_zero, List.set_cons_succ]
              refine take_at (i := 15) (take_d rfl) ?_
              intro h_i
              refine wpAnyH_take (v := ?_) h_i (by kernel_rfl) (by kernel_rfl) (by kernel_rfl) (fun _ _ _ h => h) (Or.inl ⟨by rfl, ?_⟩) (by assumption) ?_
              case refine_2 => (intro w hSw; (try dsimp only at hSw); go_simp; (try with_reducible rfl))
              clear h_i
              try simp only [Act.put, List.setIfInBounds_toArray, List.set_cons_zero, List.set_cons_succ]
              refine take_at (i := 16) (take_d rfl) ?_
              intro h_i
              refine wpAnyH_take (v := ?_) h_i (by kernel_rfl) (by kernel_rfl) (by kernel_rfl) (fun _ _ _ h => h) (Or.inl ⟨by rfl, ?_⟩) (by assumption) ?_
              case refine_2 => (intro w hSw; (try dsimp only at hSw); go_simp; (try with_reducible rfl))
              clear h_i
              try simp only [Act.put, List.setIfInBounds_toArray, List.set_cons_zero, List.set_cons_succ]
              refine wpAnyH_ready (rs := [14]) (by kernel_rfl) (by simp) ?_
              refine AllReadyH.cons (take_d rfl) (fun zK hK => ?_) AllReadyH.nil
              go_simp
              refine HTN.out.mono ?_
              rintro e wn ⟨rfl, rfl⟩
              go_wp2_with fail
              refine hK.out _ _ ?_ (fun hHeld2 => ?_)
              · exact ⟨(blk_cell (blk_drew HX12.out) 0).trans rfl, (blk_cell (blk_drew HX12.out) 1).trans rfl, (blk_cell (blk_drew HX12.out) 2).trans rfl, (blk_cell (blk_drew HX12.out) 3).trans rfl, (blk_cell (blk_drew HX12.out) 4).trans rfl, (blk_cell (blk_drew HX12.out) 5).trans rfl, (blk_cell (blk_drew HX12.out) 6).trans rfl, (blk_cell (blk_drew HX12.out) 7).trans rfl, (blk_cell (blk_drew HX12.out) 8).trans rfl, (blk_cell (blk_drew HX12.out) 9).trans rfl⟩
              clear hK zK hHeld
              have hHeld := hHeld2
              clear hHeld2
              try simp only [Act.put, List.setIfInBounds_toArray, List.set_cons_zero, List.set_cons_succ]
              refine take_at (i := 17) (take_d rfl) ?_
              intro h_i
              refine wpAnyH_take (v := ?_) h_i (by kernel_rfl) (by kernel_rfl) (by kernel_rfl) (fun _ _ _ h => h) (Or.inl ⟨by rfl, ?_⟩) (by assumption) ?_
              case refine_2 => (intro w hSw; (try dsimp only at hSw); go_simp; (try with_reducible rfl))
              clear h_i
              try simp only [Act.put, List.setIfInBounds_toArray, List.set_cons_zero, List.set_cons_succ]
              refine take_at (i := 18) (take_d rfl) ?_
              intro h_i
              refine wpAnyH_take (v := ?_) h_i (by kernel_rfl) (by kernel_rfl) (by kernel_rfl) (fun _ _ _ h => h) (Or.inl ⟨by rfl, ?_⟩) (by assumption) ?_
              case refine_2 => (intro w hSw; (try dsimp only at hSw); go_simp; (try with_reducible rfl))
              clear h_i
              try simp only [Act.put, List.setIfInBounds_toArray, List.set_cons_zero, List.set_cons_succ]
              refine take_at (i := 19) (take_d rfl) ?_
              intro h_i
              refine wpAnyH_take (v := ?_) h_i (by kernel_rfl) (by kernel_rfl) (by kernel_rfl) (fun _ _ _ h => h) (Or.inl ⟨by rfl, ?_⟩) (by assumption) ?_
              case refine_2 => (intro w hSw; (try dsimp only at hSw); go_simp; (try with_reducible rfl))
              clear h_i
              try simp only [Act.put, List.setIfInBounds_toArray, List.set_cons_zero, List.set_cons_succ]
              refine take_at (i := 20) (take_d rfl) ?_
              intro h_i
              refine wpAnyH_take (v := ?_) h_i (by kernel_rfl) (by kernel_rfl) (by kernel_rfl) (fun _ _ _ h => h) (Or.inl ⟨by rfl, ?_⟩) (by assumption) ?_
              case refine_2 => (intro w hSw; (try dsimp only at hSw); go_simp; (try with_reducible rfl))
              clear h_i
              try simp only [Act.put, List.setIfInBounds_toArray, List.set_cons_zero, List.set_cons_succ]
              refine take_at (i := 22) (take_d rfl) ?_
              intro h_i
              refine wpAnyH_take (v := ?_) h_i (by kernel_rfl) (by kernel_rfl) (by kernel_rfl) (fun _ _ _ h => h) (Or.inl ⟨by rfl, ?_⟩) (by assumption) ?_
              case refine_2 => (intro w hSw; (try dsimp only at hSw); go_simp; (try with_reducible rfl))
              clear h_i
              try simp only [Act.put, List.setIfInBounds_toArray, List.set_cons_zero, List.set_cons_succ]
              refine wpAnyH_ready (rs := [21]) (by kernel_rfl) (by simp) ?_
              refine AllReadyH.cons (take_d rfl) (fun zK hK => ?_) AllReadyH.nil
              go_simp
              refine HGN.out.mono ?_
              rintro e wn ⟨rfl, rfl⟩
              go_wp2_with fail
              refine hK.out _ _ ?_ (fun hHeld2 => ?_)
              · exact ⟨(blk_cell (blk_drew HX12.out) 0).trans rfl, (blk_cell (blk_drew HX12.out) 1).trans rfl, (blk_cell (blk_drew HX12.out) 2).trans rfl, (blk_cell (blk_drew HX12.out) 3).trans rfl, (blk_cell (blk_drew HX12.out) 4).trans rfl, (blk_cell (blk_drew HX12.out) 5).trans rfl, (blk_cell (blk_drew HX12.out) 6).trans rfl, (blk_cell (blk_drew HX12.out) 7).trans rfl, (blk_cell (blk_drew HX12.out) 8).trans rfl, (blk_cell (blk_drew HX12.out) 9).trans rfl⟩
              clear hK zK hHeld
              have hHeld := hHeld2
              clear hHeld2
              try simp only [Act.put, List.setIfInBounds_toArray, List.set_cons_zero, List.set_cons_succ]
              refine take_at (i := 23) (take_d rfl) ?_
              intro h_i
              refine wpAnyH_take (v := ?_) h_i (by kernel_rfl) (by kernel_rfl) (by kernel_rfl) (fun _ _ _ h => h) (Or.inl ⟨by rfl, ?_⟩) (by assumption) ?_
              case refine_2 => (intro w hSw; (try dsimp only at hSw); go_simp; (try with_reducible rfl))
              clear h_i
              try simp only [Act.put, List.setIfInBounds_toArray, List.set_cons_zero, List.set_cons_succ]
              refine take_at (i := 24) (take_d rfl) ?_
              intro h_i
              refine wpAnyH_take (v := ?_) h_i (by kernel_rfl) (by kernel_rfl) (by kernel_rfl) (fun _ _ _ h => h) (Or.inl ⟨by rfl, ?_⟩) (by assumption) ?_
              case refine_2 => (intro w hSw; (try dsimp only at hSw); go_simp; (try with_reducible rfl))
              clear h_i
              try simp only [Act.put, List.setIfInBounds_toArray, List.set_cons_zero, List.set_cons_succ]
              refine take_at (i := 25) (take_d rfl) ?_
              intro h_i
              refine wpAnyH_take (v := ?_) h_i (by kernel_rfl) (by kernel_rfl) (by kernel_rfl) (fun _ _ _ h => h) (Or.inl ⟨by rfl, ?_⟩) (by assumption) ?_
              case refine_2 => (intro w hSw; (try dsimp only at hSw); go_simp; (try with_reducible rfl))
              clear h_i
              try simp only [Act.put, List.setIfInBounds_toArray, List.set_cons_zero, List.set_cons_succ]
              refine take_at (i := 26) (take_d rfl) ?_
              intro h_i
              refine wpAnyH_take (v := ?_) h_i (by kernel_rfl) (by kernel_rfl) (by kernel_rfl) (fun _ _ _ h => h) (Or.inl ⟨by rfl, ?_⟩) (by assumption) ?_
              case refine_2 => (intro w hSw; (try dsimp only at hSw); go_simp; (try with_reducible rfl))
              clear h_i
              try simp only [Act.put, List.setIfInBounds_toArray, List.set_cons_zero, List.set_cons_succ]
              refine take_at (i := 28) (take_d rfl) ?_
              intro h_i
              refine wpAnyH_take (v := ?_) h_i (by kernel_rfl) (by kernel_rfl) (by kernel_rfl) (fun _ _ _ h => h) (Or.inl ⟨by rfl, ?_⟩) (by assumption) ?_
              case refine_2 => (intro w hSw; (try dsimp only at hSw); go_simp; (try with_reducible rfl))
              clear h_i
              try simp only [Act.put, List.setIfInBounds_toArray, List.set_cons_zero, List.set_cons_succ]
              refine take_at (i := 29) (take_d rfl) ?_
              intro h_i
              refine wpAnyH_take (v := ?_) h_i (by kernel_rfl) (by kernel_rfl) (by kernel_rfl) (fun _ _ _ h => h) (Or.inl ⟨by rfl, ?_⟩) (by assumption) ?_
              case refine_2 => (intro w hSw; (try dsimp only at hSw); go_simp; (try with_reducible rfl))
              clear h_i
              try simp only [Act.put, List.setIfInBounds_toArray, List.set_cons_zero, List.set_cons_succ]
              refine wpAnyH_ready (rs := [27]) (by kernel_rfl) (by simp) ?_
              refine AllReadyH.cons (take_d rfl) (fun zK hK => ?_) AllReadyH.nil
              go_simp
              refine HLN.out.mono ?_
              rintro e wn ⟨rfl, rfl⟩
              go_wp2_with fail
              refine hK.out _ _ ?_ (fun hHeld2 => ?_)
              · exact ⟨(blk_cell (blk_drew HX12.out) 0).trans rfl, (blk_cell (blk_drew HX12.out) 1).trans rfl, (blk_cell (blk_drew HX12.out) 2).trans rfl, (blk_cell (blk_drew HX12.out) 3).trans rfl, (blk_cell (blk_drew HX12.out) 4).trans rfl, (blk_cell (blk_drew HX12.out) 5).trans rfl, (blk_cell (blk_drew HX12.out) 6).trans rfl, (blk_cell (blk_drew HX12.out) 7).trans rfl, (blk_cell (blk_drew HX12.out) 8).trans rfl, (blk_cell (blk_drew HX12.out) 9).trans rfl⟩
              clear hK zK hHeld
              have hHeld := hHeld2
              clear hHeld2
              try simp only [Act.put, List.setIfInBounds_toArray, List.set_cons_zero, List.set_cons_succ]
              refine wpAnyH_ready (rs := [30]) (by kernel_rfl) (by simp) ?_
              refine AllReadyH.cons (take_d rfl) (fun zK hK => ?_) AllReadyH.nil
              go_simp
              refine HL9.out.mono ?_
              rintro e w13 ⟨rfl, hb13⟩
              have HB13 := Aside0.mk ((below_drew (Below.refl w12.heap.size w12)).trans hb13)
              clear hb13
              go_wp2_with fail
              refine hK.out _ _ ?_ (fun hHeld2 => ?_)
              · exact ⟨(blk_cell (blk_below HX12.out HB13.out) 0).trans rfl, (blk_cell (blk_below HX12.out HB13.out) 1).trans rfl, (blk_cell (blk_below HX12.out HB13.out) 2).trans rfl, (blk_cell (blk_below HX12.out HB13.out) 3).trans rfl, (blk_cell (blk_below HX12.out HB13.out) 4).trans rfl, (blk_cell (blk_below HX12.out HB13.out) 5).trans rfl, (blk_cell (blk_below HX12.out HB13.out) 6).trans rfl, (blk_cell (blk_below HX12.out HB13.out) 7).trans rfl, (blk_cell (blk_below HX12.out HB13.out) 8).trans rfl, (blk_cell (blk_below HX12.out HB13.out) 9).trans rfl⟩
              clear hK zK hHeld
              have hHeld := hHeld2
              clear hHeld2
              try simp only [Act.put, List.setIfInBounds_toArray, List.set_cons_zero, List.set_cons_succ]
              refine take_at (i := 31) (take_d rfl) ?_
              intro h_i
              refine wpAnyH_take (v := ?_) h_i (by kernel_rfl) (by kernel_rfl) (by kernel_rfl) (fun _ _ _ h => h) (Or.inl ⟨by rfl, ?_⟩) (by assumption) ?_
              case refine_2 => (intro w hSw; (try dsimp only at hSw); go_simp; (try with_reducible rfl))
              clear h_i
              try simp only [Act.put, List.setIfInBounds_toArray, List.set_cons_zero, List.set_cons_succ]
              refine take_at (i := 32) (take_d rfl) ?_
              intro h_i
              refine wpAnyH_take (v := ?_) h_i (by kernel_rfl) (by kernel_rfl) (by kernel_rfl) (fun _ _ _ h => h) (Or.inl ⟨by rfl, ?_⟩) (by assumption) ?_
              case refine_2 => (intro w hSw; (try dsimp only at hSw); go_simp; (try with_reducible rfl))
              clear h_i
              try simp only [Act.put, List.setIfInBounds_toArray, List.set_cons_zero, List.set_cons_succ]
              refine take_at (i := 33) (take_d rfl) ?_
              intro h_i
              refine wpAnyH_take (v := ?_) h_i (by kernel_rfl) (by kernel_rfl) (by kernel_rfl) (fun _ _ _ h => h) (Or.inl ⟨by rfl, ?_⟩) (by assumption) ?_
              case refine_2 => (intro w hSw; (try dsimp only at hSw); go_simp; (try with_reducible rfl))
              clear h_i
              try simp only [Act.put, List.setIfInBounds_toArray, List.set_cons_zero, List.set_cons_succ]
              refine take_at (i := 34) (take_d rfl) ?_
              intro h_i
              refine wpAnyH_take (v := ?_) h_i (by kernel_rfl) (by kernel_rfl) (by kernel_rfl) (fun _ _ _ h => h) (Or.inl ⟨by rfl, ?_⟩) (by assumption) ?_
              case refine_2 => (intro w hSw; (try dsimp only at hSw); go_simp; (try with_reducible rfl))
              clear h_i
              try simp only [Act.put, List.setIfInBounds_toArray, List.set_cons_zero, List.set_cons_succ]
              refine take_at (i := 36) (take_d rfl) ?_
              intro h_i
              refine wpAnyH_take (v := ?_) h_i (by kernel_rfl) (by kernel_rfl) (by kernel_rfl) (fun _ _ _ h => h) (Or.inl ⟨by rfl, ?_⟩) (by assumption) ?_
              case refine_2 => (intro w hSw; (try dsimp only at hSw); go_simp; (try with_reducible rfl))
              clear h_i
              try simp only [Act.put, List.setIfInBounds_toArray, List.set_cons_zero, List.set_cons_succ]
              refine wpAnyH_ready (rs := [35]) (by kernel_rfl) (by simp) ?_
              refine AllReadyH.cons (take_d rfl) (fun zK hK => ?_) AllReadyH.nil
              go_simp
              refine (HFN.out _ HB13.out).mono ?_
              rintro e w14 ⟨F14, d14, rfl, hd14, hC14, hb14⟩
              have HB14 := Aside0.mk (HB13.out.trans (hb14.mono HB13.out.size))
              have HF14 := Aside0.mk (And.intro hd14 hC14)
              clear hb14 hd14 hC14
              go_wp2_with fail
              refine hK.out _ _ ?_ (fun hHeld2 => ?_)
              · exact ⟨(blk_cell (blk_below HX12.out HB14.out) 0).trans rfl, (blk_cell (blk_below HX12.out HB14.out) 1).trans rfl, (blk_cell (blk_below HX12.out HB14.out) 2).trans rfl, (blk_cell (blk_below HX12.out HB14.out) 3).trans rfl, (blk_cell (blk_below HX12.out HB14.out) 4).trans rfl, (blk_cell (blk_below HX12.out HB14.out) 5).trans rfl, (blk_cell (blk_below HX12.out HB14.out) 6).trans rfl, (blk_cell (blk_below HX12.out HB14.out) 7).trans rfl, (blk_cell (blk_below HX12.out HB14.out) 8).trans rfl, (blk_cell (blk_below HX12.out HB14.out) 9).trans rfl⟩
              clear hK zK hHeld
              have hHeld := hHeld2
              clear hHeld2
              try simp only [Act.put, List.setIfInBounds_toArray, List.set_cons_zero, List.set_cons_succ]
              refine wpAnyH_ready (rs := [37]) (by kernel_rfl) (by simp) ?_
              refine AllReadyH.cons (take_d rfl) (fun zK hK => ?_) AllReadyH.nil
              go_simp
              refine (catchpitref05_Fields.calls 1000001 F14 d14 Y.fields X1 j1 Y.fields true w14 HF14.out.2 HF14.out.1 (Kd.C_below HFROW.out HB14.out) HQ.out.j1 (HG.out _ (B12.out.trans (HB14.out.mono B12.out.size))) (FieldsM_eq _ (by have := HFB6.out; omega) _ (by have := HFB6.out; omega))).mono ?_
              rintro e w15 ⟨rfl, hd15⟩
              have HB15 := Aside0.mk (HB14.out.trans (hd15.below.mono HB14.out.size))
              clear hd15
              go_wp2_with fail
              refine hK.out _ _ ?_ (fun hHeld2 => ?_)
              · exact ⟨(blk_cell (blk_below HX12.out HB15.out) 0).trans rfl, (blk_cell (blk_below HX12.out HB15.out) 1).trans rfl, (blk_cell (blk_below HX12.out HB15.out) 2).trans rfl, (blk_cell (blk_below HX12.out HB15.out) 3).trans rfl, (blk_cell (blk_below HX12.out HB15.out) 4).trans rfl, (blk_cell (blk_below HX12.out HB15.out) 5).trans rfl, (blk_cell (blk_below HX12.out HB15.out) 6).trans rfl, (blk_cell (blk_below HX12.out HB15.out) 7).trans rfl, (blk_cell (blk_below HX12.out HB15.out) 8).trans rfl, (blk_cell (blk_below HX12.out HB15.out) 9).trans rfl⟩
              clear hK zK hHeld
              have hHeld := hHeld2
              clear hHeld2
              try simp only [Act.put, List.setIfInBounds_toArray, List.set_cons_zero, List.set_cons_succ]
              refine take_at (i := 38) (take_d rfl) ?_
              intro h_i
              refine wpAnyH_take (v := ?_) h_i (by kernel_rfl) (by kernel_rfl) (by kernel_rfl) (fun _ _ _ h => h) (Or.inl ⟨by rfl, ?_⟩) (by assumption) ?_
              case refine_2 => (intro w hSw; (try dsimp only at hSw); go_simp; (try with_reducible rfl))
              clear h_i
              try simp only [Act.put, List.setIfInBounds_toArray, List.set_cons_zero, List.set_cons_succ]
              refine take_at (i := 39) (take_d rfl) ?_
              intro h_i
              refine wpAnyH_take (v := ?_) h_i (by kernel_rfl) (by kernel_rfl) (by kernel_rfl) (fun _ _ _ h => h) (Or.inl ⟨by rfl, ?_⟩) (by assumption) ?_
              case refine_2 => (intro w hSw; (try dsimp only at hSw); go_simp; (try with_reducible rfl))
              clear h_i
              try simp only [Act.put, List.setIfInBounds_toArray, List.set_cons_zero, List.set_cons_succ]
              refine wpAnyH_done (by kernel_rfl) ?_ _
              go_wp2_with fail
              go_roundw
              case rel =>
                have hk1 := HK1.out
                refine ⟨k1, a, Y, 0, co, .slice A12 a c12, lv, fv, X0, X1, j0, j1, rfl, rfl, rfl, by omega, ⟨⟨?_, ?_, ?_, ?_, ?_, blk_below HX12.out HB15.out, ?_, ?_, ?_, ?_, HQ.out.j0, HQ.out.j1, ?_⟩⟩⟩
                · rw [HED.out]
                  exact AC.out.below HB15.out
                · exact ((MB.out.trans (Moves.of_below HB11.out)).grow HG12.out (fun x hx => (RB.out.at x hx).1)).trans (Moves.of_below HB15.out)
                · exact ((BBt.out.trans (HB11.out.mono (Nat.le_trans HS9.out BBt.out.size))).trans (HB12.out.mono HS9.out)).trans (HB15.out.mono (Nat.le_trans (Nat.le_trans HS9.out BBt.out.size) HL12.out))
                · rw [HFL.out, List.take_append_of_le_length HQ.out.aT]
                  have h1 := HR12.out
                  rw [List.append_nil] at h1
                  exact (h1.moves (Moves.of_below (S := fun _ => False) HB15.out) (fun _ _ h => h)).1
                · intro x hx hs
                  rcases HT12.out x hx with h | h
                  · exact DB.out x h hs
                  · have := AB.out.own_lt hs
                    have := HB11.out.size
                    omega
                · rw [HFL.out]
                  exact HNX.out
                · exact fun h => absurd h (by decide)
                · rw [HFL.out, List.length_append]
                  have := HQ.out.aT
                  omega
                · exact HQ.out.dl
                · refine fun _ => ⟨Kd.C_below HFROW.out HB15.out, fun hp ad e => ⟨(HRF.out.2 hp ad e).1, fun hs => ?_, (HRF.out.2 hp ad e).2.2⟩⟩
                  rcases HT12.out _ hs with h | h
                  · exact (HRF.out.2 hp ad e).2.1 h
                  · have hc := CF.out
                    rw [e] at hc
                    have h4 := CF_lt hc hp
                    have := HB11.out.size
                    omega
              case measure =>
                have hk1 := HK1.out
                simp [intOf]
                omega
            · have hn0 : (er == 0) = false := by rw [beq_eq_false_iff_ne]; exact h60
              have hx := XB.out
              have xk0 : wB.cell? ⟨bx, 0, none⟩ = some (Value.int .i64 (Y.place : Int)) := (blk_cell hx 0).trans rfl
              have xk1 : wB.cell? ⟨bx, 1, none⟩ = some (Value.int .u64 (Y.n : Int)) := (blk_cell hx 1).trans rfl
              have xk2 : wB.cell? ⟨bx, 2, none⟩ = some (Value.int .i64 (Y.count : Int)) := (blk_cell hx 2).trans rfl
              have xk3 : wB.cell? ⟨bx, 3, none⟩ = some (Value.int .i64 (Y.lines : Int)) := (blk_cell hx 3).trans rfl
              have xk4 : wB.cell? ⟨bx, 4, none⟩ = some (Value.int .i64 (Y.size : Int)) := (blk_cell hx 4).trans rfl
              have xk5 : wB.cell? ⟨bx, 5, none⟩ = some (Value.string (strOfNums Y.text)) := (blk_cell hx 5).trans rfl
              have xk6 : wB.cell? ⟨bx, 6, none⟩ = some (Value.slice X0 Y.data.length j0) := (blk_cell hx 6).trans rfl
              have xk7 : wB.cell? ⟨bx, 7, none⟩ = some (Value.slice X1 Y.fields.length j1) := (blk_cell hx 7).trans rfl
              have xk8 : wB.cell? ⟨bx, 8, none⟩ = some (Value.int .i64 (a : Int)) := (blk_cell hx 8).trans rfl
              have xk9 : wB.cell? ⟨bx, 9, none⟩ = some (Value.int .i64 er) := (blk_cell hx 9).trans rfl
              have kw9 := HW9.out
              have hwa : IntKind.i64.wrap ((a : Int) - (a : Int)) = 0 := by
                rw [Int.sub_self]
                rfl
              obtain ⟨Zm, im, hcf, hcm⟩ : ∃ Zm im, (∀ W : World, (Instr.slice 24 (.slice X0 Y.data.length j0) (some (.int .i64 (Y.data.length : Int))) none none).run Tryd.prog W = .ok (.slice Zm 0 im) W) ∧ Aside0 (Kd.C (Kd.int .u8) wB Zm 0 []) := by
                have hq : (Tryd.prog.info? 5).map (fun i => i.size) = some 1 := by kernel_rfl
                obtain ⟨i9, hi9, hsz9⟩ := Option.map_eq_some_iff.1 hq
                have h1 := cut_from (P := Tryd.prog) 24 5 .i64 Tryd.underlying24 hi9 1 hsz9 X0 Y.data.length j0 (Y.data.length : Int) (by omega) (by omega)
                rw [Int.toNat_natCast, Nat.sub_self] at h1
                exact ⟨_, _, h1, ⟨⟨rfl, Nat.zero_le _, fun h => absurd h (Nat.lt_irrefl _)⟩⟩⟩
              have hq0 : (Tryd.prog.info? 5).map (fun i => i.size) = some 1 := by kernel_rfl
              obtain ⟨i8, hi8, hsz8⟩ := Option.map_eq_some_iff.1 hq0
              have hct := cut_to (P := Tryd.prog) 24 5 .i64 Tryd.underlying24 hi8 Ap p.length cp (0 : Int) (by omega) (by omega) hle
              rw [Int.toNat_zero] at hct
              have HSM := Aside0.mk (catchpitref08_Same.calls 1000001 none 0 [] Zm im [] true wB ⟨rfl, Nat.zero_le _, fun h => absurd h (Nat.lt_irrefl _)⟩ (Nat.zero_le _) hcm.out (Nat.zero_le _) (HG.out _ (B9.out.trans (BBt.out.mono HWB.out))) (by rw [Same8_eq _ _ (by simp) _ (by simp), decide_eq_true rfl]))
              clear hx hq0 hi8 hsz8
              go_wp2_with fail
              refine HSM.out.mono ?_
              rintro e w11 ⟨rfl, hd11⟩
              have HB11 := Aside0.mk hd11.below
              clear hd11 HSM hcf xk0 xk1 xk2 xk3 xk4 xk5 xk6 xk7 xk8 xk9 kw9
              have hx := blk_below XB.out HB11.out
              have xk0 : w11.cell? ⟨bx, 0, none⟩ = some (Value.int .i64 (Y.place : Int)) := (blk_cell hx 0).trans rfl
              have xk1 : w11.cell? ⟨bx, 1, none⟩ = some (Value.int .u64 (Y.n : Int)) := (blk_cell hx 1).trans rfl
              have xk2 : w11.cell? ⟨bx, 2, none⟩ = some (Value.int .i64 (Y.count : Int)) := (blk_cell hx 2).trans rfl
              have xk3 : w11.cell? ⟨bx, 3, none⟩ = some (Value.int .i64 (Y.lines : Int)) := (blk_cell hx 3).trans rfl
              have xk4 : w11.cell? ⟨bx, 4, none⟩ = some (Value.int .i64 (Y.size : Int)) := (blk_cell hx 4).trans rfl
              have xk5 : w11.cell? ⟨bx, 5, none⟩ = some (Value.string (strOfNums Y.text)) := (blk_cell hx 5).trans rfl
              have xk6 : w11.cell? ⟨bx, 6, none⟩ = some (Value.slice X0 Y.data.length j0) := (blk_cell hx 6).trans rfl
              have xk7 : w11.cell? ⟨bx, 7, none⟩ = some (Value.slice X1 Y.fields.length j1) := (blk_cell hx 7).trans rfl
              have xk8 : w11.cell? ⟨bx, 8, none⟩ = some (Value.int .i64 (a : Int)) := (blk_cell hx 8).trans rfl
              have xk9 : w11.cell? ⟨bx, 9, none⟩ = some (Value.int .i64 er) := (blk_cell hx 9).trans rfl
              clear hx
              have RB1 := Aside0.mk (show RowD w11 w9.heap.size (.slice Ao a cO) (List.take a T) from (RB.out.moves (Moves.of_below (S := fun _ => False) HB11.out) (fun _ _ h => h)).1)
              have HPT := Aside0.mk (show Kd.C (Kd.int .u8) w11 Ap 0 [] from Kd.C_take (m := 0) (HPW.out w11 ((B9.out.trans (BBt.out.mono HWB.out)).trans (HB11.out.mono (Nat.le_trans B9.out.size BBt.out.size)))) (Nat.zero_le _))
              have hw911 : w9.heap.size ≤ w11.heap.size := Nat.le_trans MB.out.sz HB11.out.size
              have hlo : (List.take a T).length + ([] : List Int).length ≤ 140737488355328 := by rw [hla]; simp only [List.length_nil]; omega
              have HLA := Aside0.mk hla
              go_wp2_with ((with_reducible refine gate_builtin (b := .append) (xs := #[.tmp 120, .tmp 123]) rfl ?_); at_builtin; refine list_plusD w9.heap.size rfl (.tmp 120) (.tmp 123) 24 (.int .u8 0) rfl Tryd.underlying24 info5 rfl (.slice Ao a cO) (List.take a T) [] Ap cp rfl rfl RB1.out HPT.out hw911 hlo ?_; intro v12 w12 hr12 hb12 hg12 hat12; obtain ⟨A12, c12, q12, _, _⟩ := hr12.reads; rw [show (List.take a T ++ ([] : List Int)).length = a from by rw [List.append_nil]; exact HLA.out] at q12; subst q12; have HR12 := Aside0.mk hr12; have HB12 := Aside0.mk hb12; have HG12 := Aside0.mk hg12; have HT12 := Aside0.mk hat12; have hx12 := (hg12.block bx (Nat.lt_of_lt_of_le (blk_lt XB.out) HB11.out.size) (fun e => RB1.out.not_got (blk_below XB.out HB11.out) e.symm)).trans (blk_below XB.out HB11.out); have HX12 := Aside0.mk hx12; clear xk0 xk1 xk2 xk3 xk4 xk5 xk6 xk7 xk8 xk9; have xk0 : w12.cell? ⟨bx, 0, none⟩ = some (Value.int .i64 (Y.place : Int)) := (blk_cell hx12 0).trans rfl; have xk1 : w12.cell? ⟨bx, 1, none⟩ = some (Value.int .u64 (Y.n : Int)) := (blk_cell hx12 1).trans rfl; have xk2 : w12.cell? ⟨bx, 2, none⟩ = some (Value.int .i64 (Y.count : Int)) := (blk_cell hx12 2).trans rfl; have xk3 : w12.cell? ⟨bx, 3, none⟩ = some (Value.int .i64 (Y.lines : Int)) := (blk_cell hx12 3).trans rfl; have xk4 : w12.cell? ⟨bx, 4, none⟩ = some (Value.int .i64 (Y.size : Int)) := (blk_cell hx12 4).trans rfl; have xk5 : w12.cell? ⟨bx, 5, none⟩ = some (Value.string (strOfNums Y.text)) := (blk_cell hx12 5).trans rfl; have xk6 : w12.cell? ⟨bx, 6, none⟩ = some (Value.slice X0 Y.data.length j0) := (blk_cell hx12 6).trans rfl; have xk7 : w12.cell? ⟨bx, 7, none⟩ = some (Value.slice X1 Y.fields.length j1) := (blk_cell hx12 7).trans rfl; have xk8 : w12.cell? ⟨bx, 8, none⟩ = some (Value.int .i64 (a : Int)) := (blk_cell hx12 8).trans rfl; have xk9 : w12.cell? ⟨bx, 9, none⟩ = some (Value.int .i64 er) := (blk_cell hx12 9).trans rfl; clear hr12 hb12 hg12 hat12 hx12)
              have HL12 := Aside0.mk (show wB.heap.size ≤ w12.heap.size from Nat.le_trans HB11.out.size HG12.out.size)
              have DB11 := Aside0.mk (show ∀ x, (Value.slice Ao a cO).ownBlock = some x → ¬ Own3 b lv fv x from DB.out)
              have AC := Aside0.mk ((AB.out.below HB11.out).grow HG12.out DB11.out)
              have ACd := Aside0.mk (AC.out.below (below_drew (Below.refl w12.heap.size w12)))
              have B12 := Aside0.mk (((B9.out.trans (BBt.out.mono HWB.out)).trans (HB11.out.mono (Nat.le_trans B9.out.size BBt.out.size))).trans (HB12.out.mono B9.out.size))
              have HDN := Aside0.mk (done_calls BB b e0 e1 e2 Y co lv fv a Y.data.length er w12.drew ACd.out)
              have HEN := Aside0.mk (err_calls BB b e0 e1 e2 Y co lv fv a Y.data.length er w12.drew ACd.out)
              have HTN := Aside0.mk (taken_calls BB b e0 e1 e2 Y co lv fv a Y.data.length er w12.drew ACd.out)
              have HGN := Aside0.mk (given_calls BB b e0 e1 e2 Y co lv fv a Y.data.length er w12.drew ACd.out)
              have HLN := Aside0.mk (left_calls BB b e0 e1 e2 Y co lv fv a Y.data.length er w12.drew ACd.out)
              have HL9 := Aside0.mk (left9_calls Y X0 X1 Y.data.length Y.fields.length j0 j1 w12.drew)
              generalize hqn : (if Y.place = 3 then (Y.n : Int) else 0) = qn at *
              have HFB6 := Aside0.mk (show Y.fields.length ≤ 1000 by
                have := run_dataLen (E := envM e0 e1 e2) T 0 minit
                rw [HQ.out.run] at this
                simp [minit] at this
                omega)
              have HFN := Aside0.mk (fun W' (hb : Below w12.heap.size w12 W') => fields_calls BB b e0 e1 e2 Y co lv fv a Y.data.length er W' (AC.out.below hb) (Nat.le_trans HFB6.out (by decide)))
              have hp11 : ¬ Y.place = 11 := fun h => absurd (HPL.out.2 h) h60
              have hpb : ((Y.place : Int) == 11) = false := by rw [beq_eq_false_iff_ne]; omega
              rw [hpb] at HDN
              rw [if_neg hp11] at HFN
              clear hp11 hpb hqn
              have HFROW := Aside0.mk (show Kd.C k53 w12 X1 Y.fields.length Y.fields from CF_moves (moves_grown HG12.out) (Kd.C_below CF.out HB11.out) (fun hp ad e h => (HRF.out.2 hp ad e).2.1 h))
              refine wp_region_held_drew (S := (fun W => W.cell? ⟨bx, 0, none⟩ = some (Value.int .i64 (Y.place : Int)) ∧ W.cell? ⟨bx, 1, none⟩ = some (Value.int .u64 (Y.n : Int)) ∧ W.cell? ⟨bx, 2, none⟩ = some (Value.int .i64 (Y.count : Int)) ∧ W.cell? ⟨bx, 3, none⟩ = some (Value.int .i64 (Y.lines : Int)) ∧ W.cell? ⟨bx, 4, none⟩ = some (Value.int .i64 (Y.size : Int)) ∧ W.cell? ⟨bx, 5, none⟩ = some (Value.string (strOfNums Y.text)) ∧ W.cell? ⟨bx, 6, none⟩ = some (Value.slice X0 Y.data.length j0) ∧ W.cell? ⟨bx, 7, none⟩ = some (Value.slice X1 Y.fields.length j1) ∧ W.cell? ⟨bx, 8, none⟩ = some (Value.int .i64 (a : Int)) ∧ W.cell? ⟨bx, 9, none⟩ = some (Value.int .i64 er))) (by kernel_rfl) ?_ (fun hHeld => ?_)
              · exact ⟨(blk_cell (blk_drew HX12.out) 0).trans rfl, (blk_cell (blk_drew HX12.out) 1).trans rfl, (blk_cell (blk_drew HX12.out) 2).trans rfl, (blk_cell (blk_drew HX12.out) 3).trans rfl, (blk_cell (blk_drew HX12.out) 4).trans rfl, (blk_cell (blk_drew HX12.out) 5).trans rfl, (blk_cell (blk_drew HX12.out) 6).trans rfl, (blk_cell (blk_drew HX12.out) 7).trans rfl, (blk_cell (blk_drew HX12.out) 8).trans rfl, (blk_cell (blk_drew HX12.out) 9).trans rfl⟩
              refine take_at (i := 0) (take_d rfl) ?_
              intro h_i
              refine wpAnyH_take (v := ?_) h_i (by kernel_rfl) (by kernel_rfl) (by kernel_rfl) (fun _ _ _ h => h) (Or.inl ⟨by rfl, ?_⟩) (by assumption) ?_
              case refine_2 => (intro w hSw; (try dsimp only at hSw); go_simp; (try with_reducible rfl))
              clear h_i
              try simp only [Act.put, List.setIfInBounds_toArray, List.set_cons_zero, List.set_cons_succ]
              refine take_at (i := 2) (take_d rfl) ?_
              intro h_i
              refine wpAnyH_take (v := ?_) h_i (by kernel_rfl) (by kernel_rfl) (by kernel_rfl) (fun _ _ _ h => h) (Or.inl ⟨by rfl, ?_⟩) (by assumption) ?_
              case refine_2 => (intro w hSw; (try dsimp only at hSw); go_simp; (try with_reducible rfl))
              clear h_i
              try simp only [Act.put, List.setIfInBounds_toArray, List.set_cons_zero, List.set_cons_succ]
              refine take_at (i := 3) (take_d rfl) ?_
              intro h_i
              refine wpAnyH_take (v := ?_) h_i (by kernel_rfl) (by kernel_rfl) (by kernel_rfl) (fun _ _ _ h => h) (Or.inl ⟨by rfl, ?_⟩) (by assumption) ?_
              case refine_2 => (intro w hSw; (try dsimp only at hSw); go_simp; (try with_reducible rfl))
              clear h_i
              try simp only [Act.put, List.setIfInBounds_toArray, List.set_cons_zero, List.set_cons_succ]
              refine take_at (i := 4) (take_d rfl) ?_
              intro h_i
              refine wpAnyH_take (v := ?_) h_i (by kernel_rfl) (by kernel_rfl) (by kernel_rfl) (fun _ _ _ h => h) (Or.inl ⟨by rfl, ?_⟩) (by assumption) ?_
              case refine_2 => (intro w hSw; (try dsimp only at hSw); go_simp; (try with_reducible rfl))
              clear h_i
              try simp only [Act.put, List.setIfInBounds_toArray, List.set_cons_zero, List.set_cons_succ]
              refine wpAnyH_ready (rs := [1]) (by kernel_rfl) (by simp) ?_
              refine AllReadyH.cons (take_d rfl) (fun zK hK => ?_) AllReadyH.nil
              go_simp
              refine HDN.out.mono ?_
              rintro e wn ⟨rfl, rfl⟩
              go_wp2_with fail
              refine hK.out _ _ ?_ (fun hHeld2 => ?_)
              · exact ⟨(blk_cell (blk_drew HX12.out) 0).trans rfl, (blk_cell (blk_drew HX12.out) 1).trans rfl, (blk_cell (blk_drew HX12.out) 2).trans rfl, (blk_cell (blk_drew HX12.out) 3).trans rfl, (blk_cell (blk_drew HX12.out) 4).trans rfl, (blk_cell (blk_drew HX12.out) 5).trans rfl, (blk_cell (blk_drew HX12.out) 6).trans rfl, (blk_cell (blk_drew HX12.out) 7).trans rfl, (blk_cell (blk_drew HX12.out) 8).trans rfl, (blk_cell (blk_drew HX12.out) 9).trans rfl⟩
              clear hK zK hHeld
              have hHeld := hHeld2
              clear hHeld2
              try simp only [Act.put, List.setIfInBounds_toArray, List.set_cons_zero, List.set_cons_succ]
              refine take_at (i := 5) (take_d rfl) ?_
              intro h_i
              refine wpAnyH_take (v := ?_) h_i (by kernel_rfl) (by kernel_rfl) (by kernel_rfl) (fun _ _ _ h => h) (Or.inl ⟨by rfl, ?_⟩) (by assumption) ?_
              case refine_2 => (intro w hSw; (try dsimp only at hSw); go_simp; (try with_reducible rfl))
              clear h_i
              try simp only [Act.put, List.setIfInBounds_toArray, List.set_cons_zero, List.set_cons_succ]
              refine take_at (i := 6) (take_d rfl) ?_
              intro h_i
              refine wpAnyH_take (v := ?_) h_i (by kernel_rfl) (by kernel_rfl) (by kernel_rfl) (fun _ _ _ h => h) (Or.inl ⟨by rfl, ?_⟩) (by assumption) ?_
              case refine_2 => (intro w hSw; (try dsimp only at hSw); go_simp; (try with_reducible rfl))
              clear h_i
              try simp only [Act.put, List.setIfInBounds_toArray, List.set_cons_zero, List.set_cons_succ]
              refine take_at (i := 7) (take_d rfl) ?_
              intro h_i
              refine wpAnyH_take (v := ?_) h_i (by kernel_rfl) (by kernel_rfl) (by kernel_rfl) (fun _ _ _ h => h) (Or.inl ⟨by rfl, ?_⟩) (by assumption) ?_
              case refine_2 => (intro w hSw; (try dsimp only at hSw); go_simp; (try with_reducible rfl))
              clear h_i
              try simp only [Act.put, List.setIfInBounds_toArray, List.set_cons_zero, List.set_cons_succ]
              refine take_at (i := 9) (take_d rfl) ?_
              intro h_i
              refine wpAnyH_take (v := ?_) h_i (by kernel_rfl) (by kernel_rfl) (by kernel_rfl) (fun _ _ _ h => h) (Or.inl ⟨by rfl, ?_⟩) (by assumption) ?_
              case refine_2 => (intro w hSw; (try dsimp only at hSw); go_simp; (try with_reducible rfl))
              clear h_i
              try simp only [Act.put, List.setIfInBounds_toArray, List.set_cons_zero, List.set_cons_succ]
              refine wpAnyH_ready (rs := [8]) (by kernel_rfl) (by simp) ?_
              refine AllReadyH.cons (take_d rfl) (fun zK hK => ?_) AllReadyH.nil
              go_simp
              refine HEN.out.mono ?_
              rintro e wn ⟨rfl, rfl⟩
              go_wp2_with fail
              refine hK.out _ _ ?_ (fun hHeld2 => ?_)
              · exact ⟨(blk_cell (blk_drew HX12.out) 0).trans rfl, (blk_cell (blk_drew HX12.out) 1).trans rfl, (blk_cell (blk_drew HX12.out) 2).trans rfl, (blk_cell (blk_drew HX12.out) 3).trans rfl, (blk_cell (blk_drew HX12.out) 4).trans rfl, (blk_cell (blk_drew HX12.out) 5).trans rfl, (blk_cell (blk_drew HX12.out) 6).trans rfl, (blk_cell (blk_drew HX12.out) 7).trans rfl, (blk_cell (blk_drew HX12.out) 8).trans rfl, (blk_cell (blk_drew HX12.out) 9).trans rfl⟩
              clear hK zK hHeld
              have hHeld := hHeld2
              clear hHeld2
              try simp only [Act.put, List.setIfInBounds_toArray, List.set_cons_zero, List.set_cons_succ]
              refine take_at (i := 10) (take_d rfl) ?_
              intro h_i
              refine wpAnyH_take (v := ?_) h_i (by kernel_rfl) (by kernel_rfl) (by kernel_rfl) (fun _ _ _ h => h) (Or.inl ⟨by rfl, ?_⟩) (by assumption) ?_
              case refine_2 => (intro w hSw; (try dsimp only at hSw); go_simp; (try with_reducible rfl))
              clear h_i
              try simp only [Act.put, List.setIfInBounds_toArray, List.set_cons_zero, List.set_cons_succ]
              refine take_at (i := 11) (take_d rfl) ?_
              intro h_i
              refine wpAnyH_take (v := ?_) h_i (by kernel_rfl) (by kernel_rfl) (by kernel_rfl) (fun _ _ _ h => h) (Or.inl ⟨by rfl, ?_⟩) (by assumption) ?_
              case refine_2 => (intro w hSw; (try dsimp only at hSw); go_simp; (try with_reducible rfl))
              clear h_i
              try simp only [Act.put, List.setIfInBounds_toArray, List.set_cons_zero, List.set_cons_succ]
              refine take_at (i := 12) (take_d rfl) ?_
              intro h_i
              refine wpAnyH_take (v := ?_) h_i (by kernel_rfl) (by kernel_rfl) (by kernel_rfl) (fun _ _ _ h => h) (Or.inl ⟨by rfl, ?_⟩) (by assumption) ?_
              case refine_2 => (intro w hSw; (try dsimp only at hSw); go_simp; (try with_reducible rfl))
              clear h_i
              try simp only [Act.put, List.setIfInBounds_toArray, List.set_cons_zero, List.set_cons_succ]
              refine take_at (i := 13) (take_d rfl) ?_
              intro h_i
              refine wpAnyH_take (v := ?_) h_i (by kernel_rfl) (by kernel_rfl) (by kernel_rfl) (fun _ _ _ h => h) (Or.inl ⟨by rfl, ?_⟩) (by assumption) ?_
              case refine_2 => (intro w hSw; (try dsimp only at hSw); go_simp; (try with_reducible rfl))
              clear h_i
              try simp only [Act.put, List.setIfInBounds_toArray, List.set_cons_zero, List.set_cons_succ]
              refine take_at (i := 15) (take_d rfl) ?_
              intro h_i
              refine wpAnyH_take (v := ?_) h_i (by kernel_rfl) (by kernel_rfl) (by kernel_rfl) (fun _ _ _ h => h) (Or.inl ⟨by rfl, ?_⟩) (by assumption) ?_
              case refine_2 => (intro w hSw; (try dsimp only at hSw); go_simp; (try with_reducible rfl))
              clear h_i
              try simp only [Act.put, List.setIfInBounds_toArray, List.set_cons_zero, List.set_cons_succ]
              refine take_at (i := 16) (take_d rfl) ?_
              intro h_i
              refine wpAnyH_take (v := ?_) h_i (by kernel_rfl) (by kernel_rfl) (by kernel_rfl) (fun _ _ _ h => h) (Or.inl ⟨by rfl, ?_⟩) (by assumption) ?_
              case refine_2 => (intro w hSw; (try dsimp only at hSw); go_simp; (try with_reducible rfl))
              clear h_i
              try simp only [Act.put, List.setIfInBounds_toArray, List.set_cons_zero, List.set_cons_succ]
              refine wpAnyH_ready (rs := [14]) (by kernel_rfl) (by simp) ?_
              refine AllReadyH.cons (take_d rfl) (fun zK hK => ?_) AllReadyH.nil
              go_simp
              refine HTN.out.mono ?_
              rintro e wn ⟨rfl, rfl⟩
              go_wp2_with fail
              refine hK.out _ _ ?_ (fun hHeld2 => ?_)
              · exact ⟨(blk_cell (blk_drew HX12.out) 0).trans rfl, (blk_cell (blk_drew HX12.out) 1).trans rfl, (blk_cell (blk_drew HX12.out) 2).trans rfl, (blk_cell (blk_drew HX12.out) 3).trans rfl, (blk_cell (blk_drew HX12.out) 4).trans rfl, (blk_cell (blk_drew HX12.out) 5).trans rfl, (blk_cell (blk_drew HX12.out) 6).trans rfl, (blk_cell (blk_drew HX12.out) 7).trans rfl, (blk_cell (blk_drew HX12.out) 8).trans rfl, (blk_cell (blk_drew HX12.out) 9).trans rfl⟩
              clear hK zK hHeld
              have hHeld := hHeld2
              clear hHeld2
              try simp only [Act.put, List.setIfInBounds_toArray, List.set_cons_zero, List.set_cons_succ]
              refine take_at (i := 17) (take_d rfl) ?_
              intro h_i
              refine wpAnyH_take (v := ?_) h_i (by kernel_rfl) (by kernel_rfl) (by kernel_rfl) (fun _ _ _ h => h) (Or.inl ⟨by rfl, ?_⟩) (by assumption) ?_
              case refine_2 => (intro w hSw; (try dsimp only at hSw); go_simp; (try with_reducible rfl))
              clear h_i
              try simp only [Act.put, List.setIfInBounds_toArray, List.set_cons_zero, List.set_cons_succ]
              refine take_at (i := 18) (take_d rfl) ?_
              intro h_i
              refine wpAnyH_take (v := ?_) h_i (by kernel_rfl) (by kernel_rfl) (by kernel_rfl) (fun _ _ _ h => h) (Or.inl ⟨by rfl, ?_⟩) (by assumption) ?_
              case refine_2 => (intro w hSw; (try dsimp only at hSw); go_simp; (try with_reducible rfl))
              clear h_i
              try simp only [Act.put, List.setIfInBounds_toArray, List.set_cons_zero, List.set_cons_succ]
              refine take_at (i := 19) (take_d rfl) ?_
              intro h_i
              refine wpAnyH_take (v := ?_) h_i (by kernel_rfl) (by kernel_rfl) (by kernel_rfl) (fun _ _ _ h => h) (Or.inl ⟨by rfl, ?_⟩) (by assumption) ?_
              case refine_2 => (intro w hSw; (try dsimp only at hSw); go_simp; (try with_reducible rfl))
              clear h_i
              try simp only [Act.put, List.setIfInBounds_toArray, List.set_cons_zero, List.set_cons_succ]
              refine take_at (i := 20) (take_d rfl) ?_
              intro h_i
              refine wpAnyH_take (v := ?_) h_i (by kernel_rfl) (by kernel_rfl) (by kernel_rfl) (fun _ _ _ h => h) (Or.inl ⟨by rfl, ?_⟩) (by assumption) ?_
              case refine_2 => (intro w hSw; (try dsimp only at hSw); go_simp; (try with_reducible rfl))
              clear h_i
              try simp only [Act.put, List.setIfInBounds_toArray, List.set_cons_zero, List.set_cons_succ]
              refine take_at (i := 22) (take_d rfl) ?_
              intro h_i
              refine wpAnyH_take (v := ?_) h_i (by kernel_rfl) (by kernel_rfl) (by kernel_rfl) (fun _ _ _ h => h) (Or.inl ⟨by rfl, ?_⟩) (by assumption) ?_
              case refine_2 => (intro w hSw; (try dsimp only at hSw); go_simp; (try with_reducible rfl))
              clear h_i
              try simp only [Act.put, List.setIfInBounds_toArray, List.set_cons_zero, List.set_cons_succ]
              refine wpAnyH_ready (rs := [21]) (by kernel_rfl) (by simp) ?_
              refine AllReadyH.cons (take_d rfl) (fun zK hK => ?_) AllReadyH.nil
              go_simp
              refine HGN.out.mono ?_
              rintro e wn ⟨rfl, rfl⟩
              go_wp2_with fail
              refine hK.out _ _ ?_ (fun hHeld2 => ?_)
              · exact ⟨(blk_cell (blk_drew HX12.out) 0).trans rfl, (blk_cell (blk_drew HX12.out) 1).trans rfl, (blk_cell (blk_drew HX12.out) 2).trans rfl, (blk_cell (blk_drew HX12.out) 3).trans rfl, (blk_cell (blk_drew HX12.out) 4).trans rfl, (blk_cell (blk_drew HX12.out) 5).trans rfl, (blk_cell (blk_drew HX12.out) 6).trans rfl, (blk_cell (blk_drew HX12.out) 7).trans rfl, (blk_cell (blk_drew HX12.out) 8).trans rfl, (blk_cell (blk_drew HX12.out) 9).trans rfl⟩
              clear hK zK hHeld
              have hHeld := hHeld2
              clear hHeld2
              try simp only [Act.put, List.setIfInBounds_toArray, List.set_cons_zero, List.set_cons_succ]
              refine take_at (i := 23) (take_d rfl) ?_
              intro h_i
              refine wpAnyH_take (v := ?_) h_i (by kernel_rfl) (by kernel_rfl) (by kernel_rfl) (fun _ _ _ h => h) (Or.inl ⟨by rfl, ?_⟩) (by assumption) ?_
              case refine_2 => (intro w hSw; (try dsimp only at hSw); go_simp; (try with_reducible rfl))
              clear h_i
              try simp only [Act.put, List.setIfInBounds_toArray, List.set_cons_zero, List.set_cons_succ]
              refine take_at (i := 24) (take_d rfl) ?_
              intro h_i
              refine wpAnyH_take (v := ?_) h_i (by kernel_rfl) (by kernel_rfl) (by kernel_rfl) (fun _ _ _ h => h) (Or.inl ⟨by rfl, ?_⟩) (by assumption) ?_
              case refine_2 => (intro w hSw; (try dsimp only at hSw); go_simp; (try with_reducible rfl))
              clear h_i
              try simp only [Act.put, List.setIfInBounds_toArray, List.set_cons_zero, List.set_cons_succ]
              refine take_at (i := 25) (take_d rfl) ?_
              intro h_i
              refine wpAnyH_take (v := ?_) h_i (by kernel_rfl) (by kernel_rfl) (by kernel_rfl) (fun _ _ _ h => h) (Or.inl ⟨by rfl, ?_⟩) (by assumption) ?_
              case refine_2 => (intro w hSw; (try dsimp only at hSw); go_simp; (try with_reducible rfl))
              clear h_i
              try simp only [Act.put, List.setIfInBounds_toArray, List.set_cons_zero, List.set_cons_succ]
              refine take_at (i := 26) (take_d rfl) ?_
              intro h_i
              refine wpAnyH_take (v := ?_) h_i (by kernel_rfl) (by kernel_rfl) (by kernel_rfl) (fun _ _ _ h => h) (Or.inl ⟨by rfl, ?_⟩) (by assumption) ?_
              case refine_2 => (intro w hSw; (try dsimp only at hSw); go_simp; (try with_reducible rfl))
              clear h_i
              try simp only [Act.put, List.setIfInBounds_toArray, List.set_cons_zero, List.set_cons_succ]
              refine take_at (i := 28) (take_d rfl) ?_
              intro h_i
              refine wpAnyH_take (v := ?_) h_i (by kernel_rfl) (by kernel_rfl) (by kernel_rfl) (fun _ _ _ h => h) (Or.inl ⟨by rfl, ?_⟩) (by assumption) ?_
              case refine_2 => (intro w hSw; (try dsimp only at hSw); go_simp; (try with_reducible rfl))
              clear h_i
              try simp only [Act.put, List.setIfInBounds_toArray, List.set_cons_zero, List.set_cons_succ]
              refine take_at (i := 29) (take_d rfl) ?_
              intro h_i
              refine wpAnyH_take (v := ?_) h_i (by kernel_rfl) (by kernel_rfl) (by kernel_rfl) (fun _ _ _ h => h) (Or.inl ⟨by rfl, ?_⟩) (by assumption) ?_
              case refine_2 => (intro w hSw; (try dsimp only at hSw); go_simp; (try with_reducible rfl))
              clear h_i
              try simp only [Act.put, List.setIfInBounds_toArray, List.set_cons_zero, List.set_cons_succ]
              refine wpAnyH_ready (rs := [27]) (by kernel_rfl) (by simp) ?_
              refine AllReadyH.cons (take_d rfl) (fun zK hK => ?_) AllReadyH.nil
              go_simp
              refine HLN.out.mono ?_
              rintro e wn ⟨rfl, rfl⟩
              go_wp2_with fail
              refine hK.out _ _ ?_ (fun hHeld2 => ?_)
              · exact ⟨(blk_cell (blk_drew HX12.out) 0).trans rfl, (blk_cell (blk_drew HX12.out) 1).trans rfl, (blk_cell (blk_drew HX12.out) 2).trans rfl, (blk_cell (blk_drew HX12.out) 3).trans rfl, (blk_cell (blk_drew HX12.out) 4).trans rfl, (blk_cell (blk_drew HX12.out) 5).trans rfl, (blk_cell (blk_drew HX12.out) 6).trans rfl, (blk_cell (blk_drew HX12.out) 7).trans rfl, (blk_cell (blk_drew HX12.out) 8).trans rfl, (blk_cell (blk_drew HX12.out) 9).trans rfl⟩
              clear hK zK hHeld
              have hHeld := hHeld2
              clear hHeld2
              try simp only [Act.put, List.setIfInBounds_toArray, List.set_cons_zero, List.set_cons_succ]
              refine wpAnyH_ready (rs := [30]) (by kernel_rfl) (by simp) ?_
              refine AllReadyH.cons (take_d rfl) (fun zK hK => ?_) AllReadyH.nil
              go_simp
              refine HL9.out.mono ?_
              rintro e w13 ⟨rfl, hb13⟩
              have HB13 := Aside0.mk ((below_drew (Below.refl w12.heap.size w12)).trans hb13)
              clear hb13
              go_wp2_with fail
              refine hK.out _ _ ?_ (fun hHeld2 => ?_)
              · exact ⟨(blk_cell (blk_below HX12.out HB13.out) 0).trans rfl, (blk_cell (blk_below HX12.out HB13.out) 1).trans rfl, (blk_cell (blk_below HX12.out HB13.out) 2).trans rfl, (blk_cell (blk_below HX12.out HB13.out) 3).trans rfl, (blk_cell (blk_below HX12.out HB13.out) 4).trans rfl, (blk_cell (blk_below HX12.out HB13.out) 5).trans rfl, (blk_cell (blk_below HX12.out HB13.out) 6).trans rfl, (blk_cell (blk_below HX12.out HB13.out) 7).trans rfl, (blk_cell (blk_below HX12.out HB13.out) 8).trans rfl, (blk_cell (blk_below HX12.out HB13.out) 9).trans rfl⟩
              clear hK zK hHeld
              have hHeld := hHeld2
              clear hHeld2
              try simp only [Act.put, List.setIfInBounds_toArray, List.set_cons_zero, List.set_cons_succ]
              refine take_at (i := 31) (take_d rfl) ?_
              intro h_i
              refine wpAnyH_take (v := ?_) h_i (by kernel_rfl) (by kernel_rfl) (by kernel_rfl) (fun _ _ _ h => h) (Or.inl ⟨by rfl, ?_⟩) (by assumption) ?_
              case refine_2 => (intro w hSw; (try dsimp only at hSw); go_simp; (try with_reducible rfl))
              clear h_i
              try simp only [Act.put, List.setIfInBounds_toArray, List.set_cons_zero, List.set_cons_succ]
              refine take_at (i := 32) (take_d rfl) ?_
              intro h_i
              refine wpAnyH_take (v := ?_) h_i (by kernel_rfl) (by kernel_rfl) (by kernel_rfl) (fun _ _ _ h => h) (Or.inl ⟨by rfl, ?_⟩) (by assumption) ?_
              case refine_2 => (intro w hSw; (try dsimp only at hSw); go_simp; (try with_reducible rfl))
              clear h_i
              try simp only [Act.put, List.setIfInBounds_toArray, List.set_cons_zero, List.set_cons_succ]
              refine take_at (i := 33) (take_d rfl) ?_
              intro h_i
              refine wpAnyH_take (v := ?_) h_i (by kernel_rfl) (by kernel_rfl) (by kernel_rfl) (fun _ _ _ h => h) (Or.inl ⟨by rfl, ?_⟩) (by assumption) ?_
              case refine_2 => (intro w hSw; (try dsimp only at hSw); go_simp; (try with_reducible rfl))
              clear h_i
              try simp only [Act.put, List.setIfInBounds_toArray, List.set_cons_zero, List.set_cons_succ]
              refine take_at (i := 34) (take_d rfl) ?_
              intro h_i
              refine wpAnyH_take (v := ?_) h_i (by kernel_rfl) (by kernel_rfl) (by kernel_rfl) (fun _ _ _ h => h) (Or.inl ⟨by rfl, ?_⟩) (by assumption) ?_
              case refine_2 => (intro w hSw; (try dsimp only at hSw); go_simp; (try with_reducible rfl))
              clear h_i
              try simp only [Act.put, List.setIfInBounds_toArray, List.set_cons_zero, List.set_cons_succ]
              refine take_at (i := 36) (take_d rfl) ?_
              intro h_i
              refine wpAnyH_take (v := ?_) h_i (by kernel_rfl) (by kernel_rfl) (by kernel_rfl) (fun _ _ _ h => h) (Or.inl ⟨by rfl, ?_⟩) (by assumption) ?_
              case refine_2 => (intro w hSw; (try dsimp only at hSw); go_simp; (try with_reducible rfl))
              clear h_i
              try simp only [Act.put, List.setIfInBounds_toArray, List.set_cons_zero, List.set_cons_succ]
              refine wpAnyH_ready (rs := [35]) (by kernel_rfl) (by simp) ?_
              refine AllReadyH.cons (take_d rfl) (fun zK hK => ?_) AllReadyH.nil
              go_simp
              refine (HFN.out _ HB13.out).mono ?_
              rintro e w14 ⟨F14, d14, rfl, hd14, hC14, hb14⟩
              have HB14 := Aside0.mk (HB13.out.trans (hb14.mono HB13.out.size))
              have HF14 := Aside0.mk (And.intro hd14 hC14)
              clear hb14 hd14 hC14
              go_wp2_with fail
              refine hK.out _ _ ?_ (fun hHeld2 => ?_)
              · exact ⟨(blk_cell (blk_below HX12.out HB14.out) 0).trans rfl, (blk_cell (blk_below HX12.out HB14.out) 1).trans rfl, (blk_cell (blk_below HX12.out HB14.out) 2).trans rfl, (blk_cell (blk_below HX12.out HB14.out) 3).trans rfl, (blk_cell (blk_below HX12.out HB14.out) 4).trans rfl, (blk_cell (blk_below HX12.out HB14.out) 5).trans rfl, (blk_cell (blk_below HX12.out HB14.out) 6).trans rfl, (blk_cell (blk_below HX12.out HB14.out) 7).trans rfl, (blk_cell (blk_below HX12.out HB14.out) 8).trans rfl, (blk_cell (blk_below HX12.out HB14.out) 9).trans rfl⟩
              clear hK zK hHeld
              have hHeld := hHeld2
              clear hHeld2
              try simp only [Act.put, List.setIfInBounds_toArray, List.set_cons_zero, List.set_cons_succ]
              refine wpAnyH_ready (rs := [37]) (by kernel_rfl) (by simp) ?_
              refine AllReadyH.cons (take_d rfl) (fun zK hK => ?_) AllReadyH.nil
              go_simp
              refine (catchpitref05_Fields.calls 1000001 F14 d14 ([] : List Fld) none 0 [] true w14 HF14.out.2 HF14.out.1 ⟨rfl, Nat.zero_le _, fun h => absurd h (Nat.lt_irrefl _)⟩ (Nat.zero_le _) (HG.out _ (B12.out.trans (HB14.out.mono B12.out.size))) (FieldsM_eq _ (by simp) _ (by simp))).mono ?_
              rintro e w15 ⟨rfl, hd15⟩
              have HB15 := Aside0.mk (HB14.out.trans (hd15.below.mono HB14.out.size))
              clear hd15
              go_wp2_with fail
              refine hK.out _ _ ?_ (fun hHeld2 => ?_)
              · exact ⟨(blk_cell (blk_below HX12.out HB15.out) 0).trans rfl, (blk_cell (blk_below HX12.out HB15.out) 1).trans rfl, (blk_cell (blk_below HX12.out HB15.out) 2).trans rfl, (blk_cell (blk_below HX12.out HB15.out) 3).trans rfl, (blk_cell (blk_below HX12.out HB15.out) 4).trans rfl, (blk_cell (blk_below HX12.out HB15.out) 5).trans rfl, (blk_cell (blk_below HX12.out HB15.out) 6).trans rfl, (blk_cell (blk_below HX12.out HB15.out) 7).trans rfl, (blk_cell (blk_below HX12.out HB15.out) 8).trans rfl, (blk_cell (blk_below HX12.out HB15.out) 9).trans rfl⟩
              clear hK zK hHeld
              have hHeld := hHeld2
              clear hHeld2
              try simp only [Act.put, List.setIfInBounds_toArray, List.set_cons_zero, List.set_cons_succ]
              refine take_at (i := 38) (take_d rfl) ?_
              intro h_i
              refine wpAnyH_take (v := ?_) h_i (by kernel_rfl) (by kernel_rfl) (by kernel_rfl) (fun _ _ _ h => h) (Or.inl ⟨by rfl, ?_⟩) (by assumption) ?_
              case refine_2 => (intro w hSw; (try dsimp only at hSw); go_simp; (try with_reducible rfl))
              clear h_i
              try simp only [Act.put, List.setIfInBounds_toArray, List.set_cons_zero, List.set_cons_succ]
              refine take_at (i := 39) (take_d rfl) ?_
              intro h_i
              refine wpAnyH_take (v := ?_) h_i (by kernel_rfl) (by kernel_rfl) (by kernel_rfl) (fun _ _ _ h => h) (Or.inl ⟨by rfl, ?_⟩) (by assumption) ?_
              case refine_2 => (intro w hSw; (try dsimp only at hSw); go_simp; (try with_reducible rfl))
              clear h_i
              try simp only [Act.put, List.setIfInBounds_toArray, List.set_cons_zero, List.set_cons_succ]
              refine wpAnyH_done (by kernel_rfl) ?_ _
              go_wp2_with fail
              go_roundw
              case rel =>
                have hk1 := HK1.out
                refine ⟨k1, a, Y, er, co, .slice A12 a c12, lv, fv, X0, X1, j0, j1, rfl, rfl, rfl, by omega, ⟨⟨?_, ?_, ?_, ?_, ?_, blk_below HX12.out HB15.out, ?_, ?_, ?_, ?_, HQ.out.j0, HQ.out.j1, ?_⟩⟩⟩
                · rw [HED.out]
                  exact AC.out.below HB15.out
                · exact ((MB.out.trans (Moves.of_below HB11.out)).grow HG12.out (fun x hx => (RB.out.at x hx).1)).trans (Moves.of_below HB15.out)
                · exact ((BBt.out.trans (HB11.out.mono (Nat.le_trans HS9.out BBt.out.size))).trans (HB12.out.mono HS9.out)).trans (HB15.out.mono (Nat.le_trans (Nat.le_trans HS9.out BBt.out.size) HL12.out))
                · rw [HFL.out, List.take_append_of_le_length HQ.out.aT]
                  have h1 := HR12.out
                  rw [List.append_nil] at h1
                  exact (h1.moves (Moves.of_below (S := fun _ => False) HB15.out) (fun _ _ h => h)).1
                · intro x hx hs
                  rcases HT12.out x hx with h | h
                  · exact DB.out x h hs
                  · have := AB.out.own_lt hs
                    have := HB11.out.size
                    omega
                · rw [HFL.out]
                  exact HNX.out
                · exact fun h => absurd h HE4.out
                · rw [HFL.out, List.length_append]
                  have := HQ.out.aT
                  omega
                · exact HQ.out.dl
                · refine fun _ => ⟨Kd.C_below HFROW.out HB15.out, fun hp ad e => ⟨(HRF.out.2 hp ad e).1, fun hs => ?_, (HRF.out.2 hp ad e).2.2⟩⟩
                  rcases HT12.out _ hs with h | h
                  · exact (HRF.out.2 hp ad e).2.1 h
                  · have hc := CF.out
                    rw [e] at hc
                    have h4 := CF_lt hc hp
                    have := HB11.out.size
                    omega
              case measure =>
                have hk1 := HK1.out
                simp [intOf]
                omega
        · obtain rfl : k = l.length := by omega
          have hlt' : ¬ (l.length : Int) < (l.length : Int) := by omega
          go_wp2
          go_ret
          exact ⟨rfl, Br.out⟩
end Go.Proofs.YtmmbpbgcobmifaaDoor.Pz
end
