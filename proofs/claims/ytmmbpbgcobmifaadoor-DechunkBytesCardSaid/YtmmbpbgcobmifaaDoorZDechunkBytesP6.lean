import Derived.Test.YtmmbpbgcobmifaaDoorZDechunkBytesP5
import Derived.Test.YtmmbpbgcobmifaaDoorZDechunkBytesP4
import Derived.Test.YtmmbpbgcobmifaaDoorZDechunkBytesP1
import Derived.Test.YtmmbpbgcobmifaaDoorRows
import Derived.LaidSub
import Derived.MakeChecks
import Derived.ProofKit
import Derived.OpenShut
import Derived.LaidMore
import Derived.Deep.Slices
import Derived.SizedLaws
import Derived.HandedShaped
import Derived.Handed
namespace Go.Proofs.YtmmbpbgcobmifaaDoorH
end Go.Proofs.YtmmbpbgcobmifaaDoorH
namespace Go.Proofs.YtmmbpbgcobmifaaDoor.Pr
end Go.Proofs.YtmmbpbgcobmifaaDoor.Pr
namespace Go.Proofs.YtmmbpbgcobmifaaDoorW.PrintWords
end Go.Proofs.YtmmbpbgcobmifaaDoorW.PrintWords
namespace Go.Proofs.YtmmbpbgcobmifaaDoorW.PrintLast
end Go.Proofs.YtmmbpbgcobmifaaDoorW.PrintLast
namespace Go.Proofs.YtmmbpbgcobmifaaDoorW.PrintMore
end Go.Proofs.YtmmbpbgcobmifaaDoorW.PrintMore
namespace Go.Proofs.YtmmbpbgcobmifaaDoorM
end Go.Proofs.YtmmbpbgcobmifaaDoorM
namespace Go.Proofs.YtmmbpbgcobmifaaDoor.Pw
end Go.Proofs.YtmmbpbgcobmifaaDoor.Pw
section
namespace Go.Proofs.YtmmbpbgcobmifaaDoor.Pr
end Go.Proofs.YtmmbpbgcobmifaaDoor.Pr
namespace Go.Proofs.YtmmbpbgcobmifaaDoor.Pw
set_option linter.unusedVariables false
set_option linter.unusedSimpArgs false
open Go Go.RowKit Go.Proofs.YtmmbpbgcobmifaaDoorH Go.Proofs.YtmmbpbgcobmifaaDoor.Pr Go.Proofs.YtmmbpbgcobmifaaDoorW.PrintWords Go.Proofs.YtmmbpbgcobmifaaDoorW.PrintLast Go.Proofs.YtmmbpbgcobmifaaDoorW.PrintMore Go.Proofs.YtmmbpbgcobmifaaDoorM
def catchpitlaw09_DechunkBytes.f (x0 x1 x2 : Int) (s : List Int) : Option Bool := if byteB s = true then some true else none
set_option maxHeartbeats 4000000 in
set_option maxRecDepth 100000 in
theorem bytes_go (A : Option Addr) (c : Nat) (s : List Int) (e0 e1 e2 : Nat) (w : World) (hr : Kd.C (Kd.int .u8) w A s.length s) (hc : s.length ≤ c) (hG : TabOk w) (hs : ByteL s) (h4 : s.length ≤ 400) (h0 : e0 ≤ 65536) (h1 : e1 ≤ 65536) (h2 : e2 ≤ 65536) :
    Calls Tryd.prog 5 #[.agg #[.int .i64 (e0 : Int), .int .i64 (e1 : Int), .int .i64 (e2 : Int)], .slice A s.length c] w fun e w' => e = .returned (.bool true) ∧ Below w.heap.size w w' := by
  obtain ⟨w1, hw1⟩ : ∃ w1, w.alloc (.cells #[.int .i64 (e0 : Int), .int .i64 (e1 : Int), .int .i64 (e2 : Int)] 23) = w1 := ⟨_, rfl⟩
  have HD := Aside0.mk (show Head9 w w1 _ _ _ by rw [← hw1]; exact head9 w _ _ _)
  have HW := Aside0.mk hw1
  have HG := Aside0.mk (fun (W : World) (h : Below w.heap.size w W) => hG.below h)
  have HR := Aside0.mk hr
  have HS := Aside0.mk hs
  have h4' : ¬ (400 : Int) < (s.length : Int) := by omega
  have h42 : decide ((400 : Int) < (s.length : Int)) = false := decide_eq_false h4'
  clear hr hG hs hw1
  go_enter Tryd.func5, Tryd.ntmps5
  go_wp2_with fail
  rw [HW.out]
  refine (wakes9 w1 (HG.out _ HD.out.b)).mono ?_
  rintro e w2 ⟨rfl, hb2⟩
  have B2 := Aside0.mk (HD.out.b.trans (hb2.mono HD.out.b.size))
  have C2 := Aside0.mk hb2
  obtain ⟨l0, l1, l2⟩ := HD.out.cells (hb2.block _ (blk_lt HD.out.l))
  clear hb2
  go_wp2_with fail
  refine (ref_right_on e0 e1 e2 h0 h1 h2 w2 (HG.out _ B2.out)).mono ?_
  rintro e w3 ⟨rfl, hb3⟩
  have B3 := Aside0.mk (B2.out.trans (hb3.mono B2.out.size))
  have C3 := Aside0.mk (C2.out.trans (hb3.mono C2.out.size))
  clear hb3 l0 l1 l2
  obtain ⟨l0, l1, l2⟩ := HD.out.cells (C3.out.block _ (blk_lt HD.out.l))
  go_wp2_with fail
  refine (new_on e0 e1 e2 w3 (HG.out _ B3.out) h0 h1 h2).mono ?_
  rintro e w4 ⟨b, rfl, ha4, hb4⟩
  have B4 := Aside0.mk (B3.out.trans (hb4.mono B3.out.size))
  have C4 := Aside0.mk (C3.out.trans (hb4.mono C3.out.size))
  have HSZ := Aside0.mk hb4.size
  have HA4 := Aside0.mk ha4
  clear hb4 ha4 l0 l1 l2
  obtain ⟨l0, l1, l2⟩ := HD.out.cells (C4.out.block _ (blk_lt HD.out.l))
  go_wp2_with fail
  refine (new_on e0 e1 e2 w4 (HG.out _ B4.out) h0 h1 h2).mono ?_
  rintro e w5 ⟨bf, rfl, ha5, hb5⟩
  have B5 := Aside0.mk (B4.out.trans (hb5.mono B4.out.size))
  have HA5 := Aside0.mk ha5
  have HB5 := Aside0.mk hb5
  have HP := Aside0.mk (put_does w3.heap.size b e0 e1 e2 minit (.slice none 0 0) (.slice none 0 0) 0 0 0 A c s w5 (HA4.out.below hb5) (fun W hW => HG.out W (B5.out.trans (hW.mono B3.out.size))) (Nat.le_trans HSZ.out hb5.size) invN_init (by omega) (by decide) (by decide) (by decide) HS.out (Kd.C_below HR.out B5.out) hc (fun hp ad e hn => by
    subst e
    have := own_new hn
    have := C_lt HR.out hp
    have := HA4.out.hb
    have := B3.out.size
    omega))
  clear ha5 hb5 l0 l1 l2
  go_wp2_with fail
  refine HP.out.mono ?_
  rintro e w9 ⟨Y, at_, er, out, ov, lv, fv, co, hrun, rfl, hrow, hdat, hat, hco, hfar, hle, hol, hdis⟩
  obtain ⟨Ao, cO, rfl, _, _⟩ := hrow.reads
  rw [Nat.zero_add, Nat.zero_add] at hat
  have HA9 := Aside0.mk hat
  have HRN := Aside0.mk hrun
  have B9 := Aside0.mk (B5.out.trans (hfar.b.mono B3.out.size))
  have HF9 := Aside0.mk (HA5.out.moves hfar.m (fun x hx hs => by
    have h1 := own_new hx
    have h2 := own_new hs
    have := HA5.out.hb
    have := HA4.out.lt
    omega))
  have HR9 := Aside0.mk hrow
  have HDT := Aside0.mk (show Y.data = out by simpa [minit] using hdat)
  have HB9 := Aside0.mk (show ∀ x, Own3 b lv fv x ∨ (Value.slice Ao out.length cO).ownBlock = some x → x ≠ bf by
    intro x hx e
    have h5 := HA5.out.lt
    rcases hx with hx | hx
    · rcases hfar.m.own x hx with h | h
      · have := own_new h
        have := HA5.out.hb
        have := HA4.out.lt
        omega
      · omega
    · have := (hrow.at x hx).1
      omega)
  have HLO := Aside0.mk (show out.length ≤ 400 by omega)
  clear hrow hdat hat hco hfar hle hdis hrun HP hol
  go_wp2_with fail
  go_loopw [12, 13, 61] (fun u12 u13 u61 wr => ∃ (k a : Nat) (Y' : MSt Fld) (er' : Int) (co' : Nat) (ov' lv' fv' : Value) (out' : List Int), u12 = ov' ∧ u13 = .int .i64 (a : Int) ∧ u61 = .int .i64 (k : Int) ∧ k ≤ s.length ∧ Aside0 (Round9 w9 wr w4.heap.size bf e0 e1 e2 s k Y' a er' co' ov' lv' fv' out')) (fun u12 u13 u61 wr => s.length - (intOf u61).toNat)
  case atStart =>
    refine ⟨0, 0, minit, 4, 0, _, _, _, [], rfl, rfl, rfl, Nat.zero_le _, ⟨⟨HF9.out, Far.refl _ _ _ _ _, RowD.zero _ _, fun x hx => by simp [Value.ownBlock] at hx, rfl, ?_, fun _ => ⟨rfl, by decide, invN_init, rfl⟩, Nat.le_refl _, Nat.le_refl _⟩⟩⟩
    rw [List.take_zero]
    rfl
  case round =>
    obtain ⟨k, a, Y', er', co', ov', lv', fv', out', rfl, rfl, rfl, hk, HQ⟩ := hrel
    obtain ⟨Ao', cO', rfl, _, _⟩ := HQ.out.row.reads
    have hge' : (0 : Int) ≤ (k : Int) := by omega
    have HB4r := Aside0.mk (Nat.le_trans HA5.out.hb (Nat.le_of_lt HA5.out.lt))
    by_cases hlt : k < s.length
    · have hlt' : (k : Int) < (s.length : Int) := by omega
      obtain ⟨k1, hk1⟩ : ∃ k1, k + 1 = k1 := ⟨_, rfl⟩
      have hw1 : IntKind.i64.wrap ((k : Int) + 1) = (k1 : Int) := by
        unfold IntKind.wrap
        simp [IntKind.bits, IntKind.signed]
        omega
      have hnx := run_next hlt HQ.out.run
      have hcb := HS.out (s.getD k 0) (by rw [List.getD_eq_getElem?_getD, List.getElem?_eq_getElem hlt]; exact List.getElem_mem hlt)
      obtain ⟨A', c', hc1', hsl, hCl⟩ : ∃ A' c', 1 ≤ c' ∧ (∀ W : World, (Instr.slice 24 (.slice A s.length c) (some (.int .i64 (k : Int))) (some (.int .i64 (k1 : Int))) none).run Tryd.prog W = .ok (.slice A' 1 c') W) ∧ Aside0 (∀ W, Kd.C (Kd.int .u8) W A s.length s → Kd.C (Kd.int .u8) W A' [s.getD k 0].length [s.getD k 0]) := by
        have e1 : (s.take k1).drop k = [s.getD k 0] := by
          rw [List.drop_take, drop_at hlt, show k1 - k = 1 by omega]
          rfl
        refine ⟨_, c - k, by omega, fun W => ?_, ⟨fun W hW => e1 ▸ Kd.C_mid (c := c) hW (by omega) (by omega) hc⟩⟩
        have hq : (Tryd.prog.info? 5).map (fun i => i.size) = some 1 := by kernel_rfl
        obtain ⟨i, hi, hsz⟩ := Option.map_eq_some_iff.1 hq
        have := cut_mid (P := Tryd.prog) 24 5 .i64 .i64 Tryd.underlying24 hi 1 hsz A s.length c (k : Int) (k1 : Int) (by omega) (by omega) (by omega) hc W
        rw [this]
        simp only [Int.toNat_natCast, show k1 - k = 1 by omega]
        rfl
      generalize s.getD k 0 = x at *
      rw [hk1] at hnx
      have HNX := Aside0.mk hnx
      have Br := Aside0.mk (B9.out.trans (HQ.out.far.b.mono B4.out.size))
      have HK1 := Aside0.mk hk1
      have HCB := Aside0.mk hcb
      clear hnx hcb hk1
      by_cases he4 : er' = 4
      · subst he4
        obtain ⟨hco, hp, hI, hak⟩ := HQ.out.ok rfl
        subst hak
        subst hco
        have HP := Aside0.mk (put_does w4.heap.size bf e0 e1 e2 Y' lv' fv' a out'.length a A' c' [x] wr HQ.out.at_ (fun W hW => HG.out W (Br.out.trans (hW.mono B4.out.size))) (Nat.le_trans HQ.out.at_.hb (Nat.le_of_lt HQ.out.at_.lt)) hI (by simp; omega) hp (by omega) (by have := HQ.out.ol; omega) (fun y hy => by rw [List.mem_singleton] at hy; rw [hy]; exact HCB.out) (Kd.C_below (hCl.out w HR.out) Br.out) hc1' (fun hp ad e hn => by
          subst e
          have h1 := HQ.out.at_.own_ge hn
          have h2 := C_lt (hCl.out w HR.out) (by simp)
          have := B4.out.size
          omega))
        have hnx := HNX.out
        rw [if_pos rfl] at hnx
        have hpl := run_place (E := envM e0 e1 e2) [x] 0 Y' hp
        have hf4 := run_four (E := envM e0 e1 e2) [x] 0 Y'
        have HI := Aside0.mk hI
        clear HNX hI hCl
        go_wp2_with fail
        refine HP.out.mono ?_
        rintro e w6 ⟨Y6, a6, er6, out6, ov6, lv6, fv6, co6, hrun6, rfl, hrow6, hdat6, hat6, hco6, hfar6, hle6, hol6, hdis6⟩
        obtain ⟨A6, c6, rfl, hc6, hC6⟩ := hrow6.reads
        rw [hrun6] at hnx hpl hf4
        dsimp only at hnx hpl hf4
        have hlen6 : a6 ≤ 1 := hle6
        obtain ⟨a7, ha7⟩ : ∃ a7, a + a6 = a7 := ⟨_, rfl⟩
        have hwa : IntKind.i64.wrap ((a : Int) + (a6 : Int)) = (a7 : Int) := by
          unfold IntKind.wrap
          simp [IntKind.bits, IntKind.signed]
          omega
        rw [ha7] at hnx hat6
        have HNX := Aside0.mk hnx
        have HPL := Aside0.mk hpl
        have HF4 := Aside0.mk hf4
        have HRN6 := Aside0.mk hrun6
        have HA6 := Aside0.mk hat6
        have HF6 := Aside0.mk hfar6
        have HD6 := Aside0.mk hdat6
        have HCO6 := Aside0.mk hco6
        have HA7 := Aside0.mk ha7
        have HRW := Aside0.mk (HQ.out.row.moves hfar6.m HQ.out.dis)
        have HC6 := Aside0.mk hC6
        have hw96 : w9.heap.size ≤ w6.heap.size := Nat.le_trans HQ.out.far.m.sz hfar6.m.sz
        have hlo : out'.length + out6.length ≤ 140737488355328 := by have := HQ.out.ol; omega
        clear hrun6 hrow6 hdat6 hat6 hco6 hfar6 hdis6 hC6 hnx hpl hf4 ha7 HP hsl hc6
        go_wp2_with ((with_reducible refine gate_builtin (b := .append) (xs := #[.tmp 75, .tmp 76]) rfl ?_); at_builtin; refine list_plusD w9.heap.size rfl (.tmp 75) (.tmp 76) 24 (.int .u8 0) rfl Tryd.underlying24 info5 rfl (.slice Ao' out'.length cO') out' out6 A6 c6 rfl rfl HRW.out.1 HC6.out hw96 hlo ?_; intro v7 w7 hr7 hb7 hg7 hat7; obtain ⟨A7, c7, q7, _, _⟩ := hr7.reads; rw [show (out' ++ out6).length = out'.length + out6.length from List.length_append] at q7; subst q7; have HR7 := Aside0.mk hr7; have HB7 := Aside0.mk hb7; have HG7 := Aside0.mk hg7; have HT7 := Aside0.mk hat7; clear hr7 hb7 hg7 hat7)
        go_roundw
        case rel =>
          have ha7 := HA7.out
          have hk1 := HK1.out
          refine ⟨k1, a7, Y6, er6, co6, _, lv6, fv6, out' ++ out6, rfl, rfl, rfl, by omega, ⟨⟨?_, ⟨?_, ?_⟩, HR7.out, ?_, ?_, HNX.out, ?_, by omega, ?_⟩⟩⟩
          · rw [List.length_append]
            exact HA6.out.grow HG7.out HRW.out.2
          · exact (HQ.out.far.m.trans HF6.out.m).grow HG7.out (fun y hy => (HQ.out.row.at y hy).1)
          · exact (HQ.out.far.b.trans HF6.out.b).trans (HB7.out.mono (by have := HF9.out.hb; have := HF9.out.lt; omega))
          · intro y hy hs
            rcases HT7.out y hy with h | h
            · exact HRW.out.2 y h hs
            · have := HA6.out.own_lt hs
              omega
          · rw [HD6.out, HQ.out.dat]
          · intro h4
            subst h4
            refine ⟨HCO6.out rfl, fun h => absurd (HPL.out.2 h) (by decide), ?_, ?_⟩
            · have := invN_run [x] 0 a Y' Y6 a6 HI.out (fun y hy => by rw [List.mem_singleton] at hy; rw [hy]; exact HCB.out) HRN6.out
              rw [← hk1]
              exact this
            · have := HF4.out rfl
              simp at this
              omega
          · rw [List.length_append]
            have := HQ.out.ol
            omega
        case measure =>
          have hk1 := HK1.out
          simp [intOf]
          omega
      · have hed : errD er' = er' := if_neg he4
        have hnx := HNX.out
        rw [if_neg he4] at hnx
        have hpl := run_place (E := envM e0 e1 e2) (s.take k) 0 minit (by decide)
        rw [HQ.out.run] at hpl
        dsimp only at hpl
        have hat := HQ.out.at_
        rw [hed] at hat
        have HP := Aside0.mk (put_ended w4.heap.size bf e0 e1 e2 Y' co' lv' fv' a out'.length er' A' 1 c' wr hat (by by_cases h : er' = 0; exact .inr (hpl.1 h); exact .inl h) (by omega) (by have := HQ.out.ak; omega) (by have := HQ.out.ol; omega))
        have hwa : IntKind.i64.wrap (a : Int) = (a : Int) := by
          have := HQ.out.ak
          unfold IntKind.wrap
          simp [IntKind.bits, IntKind.signed]
          omega
        have HNX := Aside0.mk hnx
        have HED := Aside0.mk hed
        have HE4 := Aside0.mk he4
        clear hnx hpl hat hed he4 hCl
        go_wp2_with fail
        refine HP.out.mono ?_
        rintro e w6 ⟨rfl, hat6, ho6⟩
        have HA6 := Aside0.mk hat6
        have HF6 := Aside0.mk (show Far wr w6 w4.heap.size bf lv' fv' lv' fv' from Far.only ho6 HQ.out.at_.hb)
        have HRW := Aside0.mk (HQ.out.row.moves HF6.out.m HQ.out.dis)
        have HC6 := Aside0.mk (show Kd.C (Kd.int .u8) w6 none ([] : List Int).length [] from ⟨rfl, Nat.zero_le _, fun h => absurd h (Nat.lt_irrefl _)⟩)
        have hw96 : w9.heap.size ≤ w6.heap.size := Nat.le_trans HQ.out.far.m.sz HF6.out.m.sz
        have hlo : out'.length + ([] : List Int).length ≤ 140737488355328 := by have := HQ.out.ol; simp; omega
        clear hat6 ho6 HP hsl
        go_wp2_with ((with_reducible refine gate_builtin (b := .append) (xs := #[.tmp 75, .tmp 76]) rfl ?_); at_builtin; refine list_plusD w9.heap.size rfl (.tmp 75) (.tmp 76) 24 (.int .u8 0) rfl Tryd.underlying24 info5 rfl (.slice Ao' out'.length cO') out' ([] : List Int) none 0 rfl rfl HRW.out.1 HC6.out hw96 hlo ?_; intro v7 w7 hr7 hb7 hg7 hat7; obtain ⟨A7, c7, q7, _, _⟩ := hr7.reads; rw [show (out' ++ ([] : List Int)).length = out'.length from by simp] at q7; subst q7; have HR7 := Aside0.mk hr7; have HB7 := Aside0.mk hb7; have HG7 := Aside0.mk hg7; have HT7 := Aside0.mk hat7; clear hr7 hb7 hg7 hat7)
        go_roundw
        case rel =>
          have hk1 := HK1.out
          refine ⟨k1, a, Y', er', co', _, lv', fv', out' ++ [], rfl, rfl, rfl, by omega, ⟨⟨?_, ⟨?_, ?_⟩, HR7.out, ?_, ?_, HNX.out, fun h => absurd h HE4.out, by have := HQ.out.ak; omega, ?_⟩⟩⟩
          · rw [List.append_nil, HED.out]
            exact HA6.out.grow HG7.out HRW.out.2
          · exact (HQ.out.far.m.trans HF6.out.m).grow HG7.out (fun y hy => (HQ.out.row.at y hy).1)
          · exact (HQ.out.far.b.trans HF6.out.b).trans (HB7.out.mono (by have := HF9.out.hb; have := HF9.out.lt; omega))
          · intro y hy hs
            rcases HT7.out y hy with h | h
            · exact HRW.out.2 y h hs
            · have := HA6.out.own_lt hs
              omega
          · rw [HQ.out.dat, List.append_nil]
          · rw [List.append_nil]
            have := HQ.out.ol
            omega
        case measure =>
          have hk1 := HK1.out
          simp [intOf]
          omega
    · have hlt' : ¬ (k : Int) < (s.length : Int) := by omega
      obtain ⟨rfl, rfl, rfl⟩ : Y = Y' ∧ at_ = a ∧ er = er' := by
        have h1 := HQ.out.run
        rw [List.take_of_length_le (by omega), HRN.out] at h1
        simp only [Prod.mk.injEq] at h1
        exact h1
      have Br := Aside0.mk (B9.out.trans (HQ.out.far.b.mono B4.out.size))
      have HDr := Aside0.mk (HA9.out.moves HQ.out.far.m (fun y hy hs => HB9.out y (.inl hy) (own_new hs)))
      have hall := HR9.out.moves HQ.out.far.m (fun y hy hs => HB9.out y (.inr hy) (own_new hs))
      obtain ⟨_, _, q1, hcA, hCA⟩ := hall.1.reads
      cases q1
      obtain ⟨_, _, q2, hcB, hCB⟩ := HQ.out.row.reads
      cases q2
      obtain rfl : out' = out := by rw [← HQ.out.dat, HDT.out]
      have hsm := catchpitref08_Same.calls 1000001 Ao cO out' Ao' cO' out' true wr hCA hcA hCB hcB (HG.out _ Br.out) (by rw [Same8_eq _ _ (by have := HLO.out; omega) _ (by have := HLO.out; omega), decide_eq_true rfl])
      have HSM := Aside0.mk hsm
      have HFL := Aside0.mk (show Y.fields.length ≤ 1000000 by
        have := run_dataLen (E := envM e0 e1 e2) s 0 minit
        rw [HRN.out] at this
        simp [minit] at this
        omega)
      clear hsm hall hCA hcA hCB hcB
      go_wp2_with fail
      refine HSM.out.mono ?_
      rintro e w10 ⟨rfl, hd10⟩
      have HDD := Aside0.mk (HDr.out.below hd10.below)
      have HFF := Aside0.mk (HQ.out.at_.below hd10.below)
      have B10 := Aside0.mk (Br.out.trans (hd10.below.mono Br.out.size))
      have HE1 := Aside0.mk (err_calls w4.heap.size bf e0 e1 e2 Y co' lv' fv' at_ out'.length (errD er) w10 HFF.out)
      have HD1 := Aside0.mk (done_calls w3.heap.size b e0 e1 e2 Y co lv fv at_ out'.length (errD er) w10 HDD.out)
      have HD2 := Aside0.mk (done_calls w4.heap.size bf e0 e1 e2 Y co' lv' fv' at_ out'.length (errD er) w10 HFF.out)
      have HL1 := Aside0.mk (left_calls w3.heap.size b e0 e1 e2 Y co lv fv at_ out'.length (errD er) w10 HDD.out)
      have HL2 := Aside0.mk (left_calls w4.heap.size bf e0 e1 e2 Y co' lv' fv' at_ out'.length (errD er) w10 HFF.out)
      have HX1 := Aside0.mk (fields_calls w3.heap.size b e0 e1 e2 Y co lv fv at_ out'.length (errD er) w10 HDD.out HFL.out)
      have HX2 := Aside0.mk (fun W (hb : Below w10.heap.size w10 W) => fields_calls w4.heap.size bf e0 e1 e2 Y co' lv' fv' at_ out'.length (errD er) W (HFF.out.below hb) HFL.out)
      have hfl : (if Y.place = 11 then Y.fields else []).length ≤ 1000000 := by split; exact HFL.out; simp
      generalize (if Y.place = 11 then Y.fields else []) = fl at *
      generalize (if Y.place = 3 then (Y.n : Int) else 0) = qn at *
      generalize ((Y.place : Int) == 11) = qb at *
      generalize errD er = qe at *
      clear hd10 HSM
      go_wp2_with fail
      refine HE1.out.mono ?_
      rintro e w11 ⟨rfl, rfl⟩
      go_wp2_with fail
      refine HD1.out.mono ?_
      rintro e w12 ⟨rfl, rfl⟩
      go_wp2_with fail
      refine HD2.out.mono ?_
      rintro e w13 ⟨rfl, rfl⟩
      go_wp2_with fail
      refine HL1.out.mono ?_
      rintro e w14 ⟨rfl, rfl⟩
      go_wp2_with fail
      refine HL2.out.mono ?_
      rintro e w15 ⟨rfl, rfl⟩
      go_wp2_with fail
      refine HX1.out.mono ?_
      rintro e w16 ⟨A16, c16, rfl, hc16, hC16, hb16⟩
      have hx2 := HX2.out w16 hb16
      have B16 := Aside0.mk (B10.out.trans (hb16.mono B10.out.size))
      have HC16 := Aside0.mk (And.intro hc16 hC16)
      clear hc16 hC16 hb16 HX1 HX2
      go_wp2_with fail
      refine hx2.mono ?_
      rintro e w17 ⟨A17, c17, rfl, hc17, hC17, hb17⟩
      have B17 := Aside0.mk (B16.out.trans (hb17.mono B16.out.size))
      have HFS := Aside0.mk (catchpitref05_Fields.calls 1000001 A16 c16 fl A17 c17 fl true w17 (Kd.C_below HC16.out.2 hb17) HC16.out.1 hC17 hc17 (HG.out _ B17.out) (FieldsM_eq fl hfl _ (by omega)))
      clear hc17 hC17 hb17 hx2
      go_wp2_with fail
      refine HFS.out.mono ?_
      rintro e w18 ⟨rfl, hd18⟩
      have B18 := Aside0.mk (B17.out.trans (hd18.below.mono B17.out.size))
      clear hd18
      go_wp2
      go_ret
      exact ⟨rfl, B18.out⟩
set_option maxHeartbeats 4000000 in
set_option maxRecDepth 100000 in
theorem bytes_out (A : Option Addr) (c : Nat) (s : List Int) (x0 x1 x2 : Int) (w : World) (hr : Kd.C (Kd.int .u8) w A s.length s) (hG : TabOk w) (ho : 400 < s.length ∨ rightL x0 x1 x2 = false) :
    Calls Tryd.prog 5 #[.agg #[.int .i64 x0, .int .i64 x1, .int .i64 x2], .slice A s.length c] w fun e w' => e = .returned (.bool true) ∧ Below w.heap.size w w' := by
  have hmax : s.length ≤ 9223372036854775807 := hr.2.1
  obtain ⟨w1, hw1⟩ : ∃ w1, w.alloc (.cells #[.int .i64 x0, .int .i64 x1, .int .i64 x2] 23) = w1 := ⟨_, rfl⟩
  have HD := Aside0.mk (show Head9 w w1 _ _ _ by rw [← hw1]; exact head9 w _ _ _)
  have HW := Aside0.mk hw1
  have HG := Aside0.mk (fun (W : World) (h : Below w.heap.size w W) => hG.below h)
  have HR := Aside0.mk (fun W hg => catchpitref08_Right.calls x0 x1 x2 (rightL x0 x1 x2) W hg (Right8_eq x0 x1 x2))
  clear hr hG hw1
  by_cases h4 : 400 < s.length
  · have h4' : (400 : Int) < (s.length : Int) := by omega
    have h42 : decide ((400 : Int) < (s.length : Int)) = true := decide_eq_true h4'
    clear ho
    go_enter Tryd.func5, Tryd.ntmps5
    go_wp2_with fail
    rw [HW.out]
    refine (wakes9 w1 (HG.out _ HD.out.b)).mono ?_
    rintro e w2 ⟨rfl, hb2⟩
    have B2 := Aside0.mk (HD.out.b.trans (hb2.mono HD.out.b.size))
    clear hb2
    go_wp2
    go_ret
    exact ⟨rfl, B2.out⟩
  · have h4' : ¬ (400 : Int) < (s.length : Int) := by omega
    have h42 : decide ((400 : Int) < (s.length : Int)) = false := decide_eq_false h4'
    have hR : rightL x0 x1 x2 = false := ho.elim (fun h => absurd h h4) id
    rw [hR] at HR
    clear ho
    go_enter Tryd.func5, Tryd.ntmps5
    go_wp2_with fail
    rw [HW.out]
    refine (wakes9 w1 (HG.out _ HD.out.b)).mono ?_
    rintro e w2 ⟨rfl, hb2⟩
    have B2 := Aside0.mk (HD.out.b.trans (hb2.mono HD.out.b.size))
    obtain ⟨l0, l1, l2⟩ := HD.out.cells (hb2.block _ (blk_lt HD.out.l))
    clear hb2
    go_wp2_with fail
    refine (HR.out w2 (HG.out _ B2.out)).mono ?_
    rintro e w3 ⟨rfl, hb3⟩
    have B3 := Aside0.mk (B2.out.trans (hb3.mono B2.out.size))
    clear hb3 l0 l1 l2
    go_wp2
    go_ret
    exact ⟨rfl, B3.out⟩
theorem catchpitlaw09_DechunkBytes.calls (a0_0 a0_1 a0_2 : Int) (A1 : Option Addr) (c1 : Nat) (l1 : List Int) (r : Bool) (w : World) (hr1 : Kd.C (Kd.int .u8) w A1 l1.length l1) (hc1 : l1.length ≤ c1) (hG : TabOk w) (h : catchpitlaw09_DechunkBytes.f a0_0 a0_1 a0_2 l1 = some r) :
    Calls Tryd.prog 5 #[.agg #[.int .i64 a0_0, .int .i64 a0_1, .int .i64 a0_2], .slice A1 l1.length c1] w fun e w' => e = .returned (.bool r) ∧ Below w.heap.size w w' := by
  unfold catchpitlaw09_DechunkBytes.f at h
  split at h
  · rename_i hh
    cases h
    by_cases ho : 400 < l1.length ∨ rightL a0_0 a0_1 a0_2 = false
    · exact bytes_out A1 c1 l1 _ _ _ w hr1 hG ho
    · have hR : rightL a0_0 a0_1 a0_2 = true := by
        cases hq : rightL a0_0 a0_1 a0_2 with
        | true => rfl
        | false => exact absurd (.inr hq) ho
      obtain ⟨x, y, z, rfl, rfl, rfl, g0, g1, g2⟩ := rightL_nat hR
      exact bytes_go A1 c1 l1 x y z w hr1 hc1 hG (byteB_iff.1 hh) (by omega) g0 g1 g2
  · cases h
end Go.Proofs.YtmmbpbgcobmifaaDoor.Pw
end
section
namespace Go.Proofs.YtmmbpbgcobmifaaDoor.Pw
end Go.Proofs.YtmmbpbgcobmifaaDoor.Pw
namespace Go.Proofs.YtmmbpbgcobmifaaDoor.Pure
open Go.RowKit Go.Proofs.YtmmbpbgcobmifaaDoorH Go.Proofs.YtmmbpbgcobmifaaDoor.Pw Go.Proofs.YtmmbpbgcobmifaaDoorW.PrintWords Go.Proofs.YtmmbpbgcobmifaaDoorW.PrintLast
theorem wf_u8 {x : Int} (h : (Lit.int .u8 x).wf = true) : 0 ≤ x ∧ x ≤ 255 := by
  have m2 : IntKind.u8.max = 255 := rfl
  have m1 : IntKind.u8.min = 0 := rfl
  simp [Lit.wf, m1, m2] at h
  omega
theorem wf_bytes {l : List Int} (h : ∀ y ∈ l, (Lit.int .u8 y).wf = true) : byteB l = true := byteB_iff.2 fun x hx => wf_u8 (h x hx)
theorem DechunkBytes (x y z : Int) (l : List Int) (_hx : (Lit.int .i64 x).wf = true ∧ (Lit.int .i64 y).wf = true ∧ (Lit.int .i64 z).wf = true) (hl : l.length * 1 ≤ 140737488351232 ∧ ∀ y ∈ l, (Lit.int .u8 y).wf = true) :
    catchpitlaw09_DechunkBytes.f x y z l = some true := if_pos (wf_bytes hl.2)
end Go.Proofs.YtmmbpbgcobmifaaDoor.Pure
end
section
namespace Go.Proofs.YtmmbpbgcobmifaaDoorH
open Go.RowKit Go.ChangeShapes Go.WideShapes Go.ChangeAt
theorem two_of {α : Type} {l : List α} (h : l.length = 2) : ∃ a b, l = [a, b] := by
  match l, h with
  | [a, b], _ => exact ⟨a, b, rfl⟩
theorem three_of {α : Type} {l : List α} (h : l.length = 3) : ∃ a b c, l = [a, b, c] := by
  match l, h with
  | [a, b, c], _ => exact ⟨a, b, c, rfl⟩
theorem six_of {α : Type} {l : List α} (h : l.length = 6) : ∃ a b c d e f, l = [a, b, c, d, e, f] := by
  match l, h with
  | [a, b, c, d, e, f], _ => exact ⟨a, b, c, d, e, f, rfl⟩
theorem cells_of_one {W : World} {cs : List Value} {y : DataW Unit × List MemPlace} {m : Nat} {x0 : Int}
    (hd : DataW.trod (fun _ => ()) Tryd.prog W 0 (fun _ => true) false m 5 cs = some y) (hy : y.1 = .lit (.int .u8 x0)) : cs = [.int .u8 x0] := by
  obtain ⟨n, e1, e2, _⟩ := DataW.trod_int Tryd.underlying5 hd
  rw [e2] at hy
  simp only [DataW.lit.injEq, Lit.int.injEq, true_and] at hy
  rw [e1, hy]
theorem cells_of_pair {W : World} {cs : List Value} {y : DataW Unit × List MemPlace} {m : Nat} {x0 x1 : Int}
    (hd : DataW.trod (fun _ => ()) Tryd.prog W 0 (fun _ => true) false m 109 cs = some y) (hy : y.1 = .agg [.lit (.int .u8 x0), .lit (.int .u8 x1)]) :
    cs = [.int .u8 x0, .int .u8 x1] := by
  have c5 : Tryd.prog.cellsOf 5 = 1 := by kernel_rfl
  have c2 : Tryd.prog.cellsOf 109 = 2 := by kernel_rfl
  obtain ⟨xs, m, _, ex, hn, hl, hel⟩ := DataW.trod_array Tryd.underlying109 hd
  rw [c2] at hn
  obtain ⟨a, b, rfl⟩ := two_of hn
  obtain ⟨u, v, rfl⟩ := two_of hl
  · rw [ex] at hy
    simp only [List.map_cons, List.map_nil, DataW.agg.injEq, List.cons.injEq, and_true] at hy
    have h0 := hel 0 (by omega)
    have h1 := hel 1 (by omega)
    simp only [c5] at h0 h1
    have e0 := cells_of_one (y := u) (by simpa using h0) hy.1
    have e1 := cells_of_one (y := v) (by simpa using h1) hy.2
    simp at e0 e1
    rw [e0, e1]
theorem cells_of_pairs {W : World} {cs : List Value} {y : DataW Unit × List MemPlace} {m : Nat} {x0 x1 x2 x3 x4 x5 : Int}
    (hd : DataW.trod (fun _ => ()) Tryd.prog W 0 (fun _ => true) false m 110 cs = some y)
    (hy : y.1 = .agg [.agg [.lit (.int .u8 x0), .lit (.int .u8 x1)], .agg [.lit (.int .u8 x2), .lit (.int .u8 x3)], .agg [.lit (.int .u8 x4), .lit (.int .u8 x5)]]) :
    cs = [.int .u8 x0, .int .u8 x1, .int .u8 x2, .int .u8 x3, .int .u8 x4, .int .u8 x5] := by
  have c2 : Tryd.prog.cellsOf 109 = 2 := by kernel_rfl
  have c6 : Tryd.prog.cellsOf 110 = 6 := by kernel_rfl
  obtain ⟨xs, m, _, ex, hn, hl, hel⟩ := DataW.trod_array Tryd.underlying110 hd
  rw [c6] at hn
  obtain ⟨a, b, c, d, e, f, rfl⟩ := six_of hn
  obtain ⟨u, v, z, rfl⟩ := three_of hl
  · rw [ex] at hy
    simp only [List.map_cons, List.map_nil, DataW.agg.injEq, List.cons.injEq, and_true] at hy
    have h0 := hel 0 (by omega)
    have h1 := hel 1 (by omega)
    have h2 := hel 2 (by omega)
    simp only [c2] at h0 h1 h2
    have e0 := cells_of_pair (y := u) (by simpa using h0) hy.1
    have e1 := cells_of_pair (y := v) (by simpa using h1) hy.2.1
    have e2 := cells_of_pair (y := z) (by simpa using h2) hy.2.2
    simp at e0 e1 e2
    rw [e0.1, e0.2, e1.1, e1.2, e2.1, e2.2]
theorem tabOk_of_laid {W : World} {L : List (String × DataW Unit)} (h : laidMetH Tryd.prog L W) (hp : (L.all fun x => x.2.handleName?.isNone) = true)
    (hf : L.filter (fun x => x.1 == "catchpit/octet.ends") = [("catchpit/octet.ends", Go.Proofs.YtmmbpbgcobmifaaDoor.Rows.laid_catchpit_octet_ends)]) (hs : W.ShapedOpen Tryd.prog) : TabOk W := by
  rw [MakeChecks.laidMetH_plain _ _ _ hp] at h
  have h2 := laidMet.filter (fun x => x.1 == "catchpit/octet.ends") h
  rw [hf] at h2
  obtain ⟨ps, ⟨g, t, cs, fuel, p, q, hg, ht, hv, hd, _, _⟩, _, _⟩ := h2
  obtain rfl := Option.some.inj ((show Tryd.prog.globalNamed "catchpit/octet.ends" = some 0 by kernel_rfl).symm.trans hg)
  obtain rfl := Option.some.inj ((show (Tryd.prog.globals[0]?).map (·.type) = some 110 by kernel_rfl).symm.trans ht)
  have e := cells_of_pairs hd rfl
  have hc := World.var?_cell hg hv
  have at_ : ∀ j, cs[j]? = cs.toList[j]? := fun j => (Array.getElem?_toList ..).symm
  rw [e] at at_
  exact ⟨(hc 0).trans (at_ 0), (hc 1).trans (at_ 1), (hc 2).trans (at_ 2), (hc 3).trans (at_ 3), (hc 4).trans (at_ 4), (hc 5).trans (at_ 5), MxOk.of_shaped hs⟩
end Go.Proofs.YtmmbpbgcobmifaaDoorH
end
section
namespace Go.Proofs.YtmmbpbgcobmifaaDoorH
open Go.RowKit Go.ChangeShapes Go.WideShapes Go.ChangeAt Go.Proofs.YtmmbpbgcobmifaaDoorW.PrintWords
def Light {H : Type} (P : Program) (t : TypeId) (d : DataW H) : Prop := ∀ x ∈ DataW.weights P t d, x ≤ reachBytes
structure Opens (P : Program) {α : Type} (d : Kd α) (t : TypeId) (G : α → Prop) : Prop where
  cells : P.cellsOf t = d.sz
  open_ : ∀ {H : Type} {enc : TypeId × Value → H} {W : World} {fuel : Nat} {cs : List Value} {x : DataW H × List MemPlace},
    DataW.trod enc P W 0 (fun _ => true) true fuel t cs = some x → Light P t x.1 → ∃ y, d.K W y cs ∧ G y
theorem Opens.int {P : Program} {t : TypeId} {k : IntKind} (hu : P.underlying t = some (.int k)) (hc : P.cellsOf t = 1) : Opens P (Kd.int k) t (fun n => (Lit.int k n).wf = true) := by
  refine ⟨hc, fun h _ => ?_⟩
  obtain ⟨n, e1, e2, wf⟩ := DataW.trod_int hu h
  exact ⟨n, e1, wf⟩
theorem Opens.bool {P : Program} {t : TypeId} (hu : P.underlying t = some .bool) (hc : P.cellsOf t = 1) : Opens P Kd.bool t (fun _ => True) := by
  refine ⟨hc, fun {_ _ _ fuel cs _} h _ => ?_⟩
  cases fuel with
  | zero => simp [DataW.trod] at h
  | succ m =>
    unfold DataW.trod at h
    rw [hu] at h
    match cs, h with
    | [.bool b], _ => exact ⟨b, rfl, trivial⟩
theorem Opens.string {P : Program} {t : TypeId} (hu : P.underlying t = some .string) (hc : P.cellsOf t = 1) : Opens P Kd.string t (fun s => s.size ≤ 140737488351232) := by
  refine ⟨hc, fun h hl => ?_⟩
  obtain ⟨s, e1, e2, _⟩ := DataW.trod_string hu h
  refine ⟨s, e1, ?_⟩
  subst e2
  have := hl s.data.toList.length (by simp [DataW.weights])
  rw [data_length] at this
  exact this
theorem weightsAll_mem {H : Type} (P : Program) (e : TypeId) : ∀ (l : List (DataW H)) (d : DataW H), d ∈ l → ∀ x ∈ DataW.weights P e d, x ∈ DataW.weightsAll P e l
  | [], d, h, _, _ => by cases h
  | a :: l, d, h, x, hx => by
    rw [DataW.weightsAll]
    rcases List.mem_cons.1 h with rfl | h
    · exact List.mem_append_left _ hx
    · exact List.mem_append_right _ (weightsAll_mem P e l d h x hx)
theorem list_of {α : Type} {p : Nat → α → Prop} : ∀ n : Nat, (∀ i, i < n → ∃ y, p i y) → ∃ l : List α, l.length = n ∧ ∀ i y, l[i]? = some y → p i y
  | 0, _ => ⟨[], rfl, fun i y h => by simp at h⟩
  | n + 1, h => by
    obtain ⟨l, hl, hp⟩ := list_of n (fun i hi => h i (by omega))
    obtain ⟨y, hy⟩ := h n (by omega)
    refine ⟨l ++ [y], by simp [hl], fun i z hz => ?_⟩
    rcases Nat.lt_or_ge i n with hi | hi
    · rw [List.getElem?_append_left (by omega)] at hz
      exact hp i z hz
    · rw [List.getElem?_append_right (by omega), hl] at hz
      rcases Nat.eq_zero_or_pos (i - n) with h0 | h0
      · rw [h0] at hz
        obtain rfl : i = n := by omega
        obtain rfl : y = z := by simpa using hz
        exact hy
      · rw [List.getElem?_eq_none (by simp; omega)] at hz
        cases hz
theorem add_add (a : Addr) (i j : Nat) : (a.add i).add j = a.add (i + j) := by
  unfold Addr.add
  by_cases h1 : i = 0
  · subst h1; simp
  · by_cases h2 : j = 0
    · subst h2; simp [h1]
    · simp [h1, h2, Nat.add_assoc]
theorem cells_at {W : World} {base : Nat} {a : Addr} {n : Nat} {cs : List Value} (h : W.cells? base a n = some cs) : cs.length = n ∧ ∀ (i : Nat) u, cs[i]? = some u → W.cell? (a.add i) = some u := by
  obtain ⟨_, hn, hc⟩ := World.cells?_some h
  refine ⟨hn, fun i u hu => ?_⟩
  have hi : i < n := by
    rcases Nat.lt_or_ge i n with hi | hi
    · exact hi
    · rw [List.getElem?_eq_none (by omega)] at hu; cases hu
  rw [hc i hi, hu]
theorem Opens.slice {P : Program} {α : Type} {d : Kd α} {t e : TypeId} {G : α → Prop} (h : Opens P d e G) (hu : P.underlying t = some (.slice e)) (hc : P.cellsOf t = 1) {B : Nat} (hB : P.bytesOf e = B) :
    Opens P (Kd.slice e d) t (fun l => l.length * B ≤ 140737488351232 ∧ ∀ y ∈ l, G y) := by
  refine ⟨hc, fun {H enc W fuel cs x} hx hl => ?_⟩
  rcases Deep.open_slice hu hx with ⟨rfl, rfl⟩ | ⟨a, len, cap, m, n, D, Pl, rfl, _, hle, hm, hmm, rfl, hel⟩
  · exact ⟨[], ⟨none, 0, rfl, Nat.le_refl _, rfl, by simp, fun h => by simp at h⟩, by simp, fun y hy => by cases hy⟩
  · simp only [if_true] at hmm
    subst hmm
    have hw : (len + (m - len)) * B ≤ 140737488351232 := by
      have := hl ((len + (m - len)) * B) (by
        unfold DataW.weights
        simp only [hu, hB]
        simp)
      exact this
    have hget : ∀ i, i < len → ∃ y, (∃ c, c.length = d.sz ∧ d.K W y c ∧ ∀ j u, c[j]? = some u → W.cell? (a.add (i * d.sz + j)) = some u) ∧ G y := by
      intro i hi
      obtain ⟨cs', h1, h2⟩ := hel i (by omega)
      obtain ⟨y, hy, hg⟩ := h.open_ h2 (fun x hx => hl x (by
        unfold DataW.weights
        simp only [hu]
        refine List.mem_cons_of_mem _ (List.mem_append_left _ (weightsAll_mem P e _ (D i) ?_ x hx))
        exact List.mem_map.2 ⟨i, List.mem_range.2 hi, rfl⟩))
      obtain ⟨hn, hcell⟩ := cells_at h1
      refine ⟨y, ⟨cs', by rw [hn, h.cells], hy, fun j u hj => ?_⟩, hg⟩
      have := hcell j u hj
      rw [add_add, h.cells] at this
      exact this
    obtain ⟨l, hll, hat⟩ := list_of len hget
    refine ⟨l, ⟨some a, m, by rw [hll], by omega, rfl, by rw [hll]; unfold maxLen at hm; omega, fun _ => ⟨a, rfl, fun j p hj => (hat j p hj).1⟩⟩, ?_, fun y hy => ?_⟩
    · rw [hll]
      exact Nat.le_trans (Nat.mul_le_mul_right _ (by omega)) hw
    · obtain ⟨i, hi, rfl⟩ := List.mem_iff_getElem.1 hy
      exact (hat i _ (List.getElem?_eq_getElem hi)).2
theorem weights_agg {H : Type} {P : Program} {t : TypeId} {fs : Array Field} (hu : P.underlying t = some (.struct fs)) (xs : List (DataW H)) : DataW.weights P t (.agg xs) = DataW.weightsEach P (fs.toList.map (·.type)) xs := by
  simp [DataW.weights, hu]
theorem light_of {H : Type} {P : Program} {ts : List TypeId} {ds : List (DataW H)} (h : (DataW.weightsEach P ts ds).all (· ≤ reachBytes) = true) {j : Nat} {t : TypeId} {d : DataW H} (ht : ts[j]? = some t) (hd : ds[j]? = some d) : Light P t d := fun x hx => by
  have := List.all_eq_true.1 h x (DataW.weights_mem_each ht hd x hx)
  simpa using this
theorem Opens.iso {P : Program} {α β : Type} {d : Kd α} {t : TypeId} {G : α → Prop} (h : Opens P d t G) (f : β → α) (g : α → β) (hfg : ∀ y, f (g y) = y) : Opens P (Kd.iso d f) t (fun x => G (f x)) := by
  refine ⟨h.cells, fun {H enc W fuel cs x} hx hl => ?_⟩
  obtain ⟨y, hk, hg⟩ := h.open_ hx hl
  exact ⟨g y, show d.K W (f (g y)) cs by rw [hfg]; exact hk, by rw [hfg]; exact hg⟩
end Go.Proofs.YtmmbpbgcobmifaaDoorH
end
section
namespace Go.Proofs.YtmmbpbgcobmifaaDoorH
open Go
variable {H : Type} {enc : TypeId × Value → H}
theorem returns_and_shaped {a : Assume} {C : Checked} {os : Os} {f : FuncId} {fn : Func} {s : ChangeSpec} {conds : List PathCond} {apart fresh handsOn again : Bool} {X : World → Array Value → Prop}
    (hX : ∀ (w w' : World) (args : Array Value), w.heap = w'.heap → X w args → X w' args)
    (own : ownKnob C.prog.godebug = none) (started : os.Started) (noInit : C.prog.inits.idxOf? f = none) (hfn : C.prog.funcs[f]? = some fn)
    (witness : ∃ (w : World) (tape : Tape) (i : Input), w.os = os ∧ (w.forCall tape i).Shaped C.prog ∧ i.vars = [] ∧ Input.okWide C.prog (w.forCall tape i) .any w.heap.size f i ∧
      ((s.pre enc C.prog fn conds apart (w.forCall tape i).memory i.args ∧ X (w.forCall tape i).memory i.args) ∧ sizedMet enc C.prog fn (OpenSpec.ofChange s) apart (w.forCall tape i).memory i.args) ∧ a.holds C.prog (lone (Frame.enter C.prog f i.args .normal) [] (w.forCall tape i)))
    (contract : ∀ (W : World) (base : Nat) (args : Array Value) (ds gs : List (DataW H)) (before : List MemPlace),
      (∀ (j : Nat) t v, fn.params[j]? = some t → args[j]? = some v → Value.okWide C.prog W .any base t v) →
      DataW.Whole enc C.prog fn.params.toList s.vars apart W args.toList ds gs before →
      conds.all (PathCond.test C.prog ⟨fn.params.toList, ds, s.plain.varTypes C.prog, gs⟩) = true →
      (DataW.weightsEach C.prog (fn.params.toList ++ s.plain.varTypes C.prog) (ds ++ gs)).all (· ≤ reachBytes) = true → X W args →
      W.ShapedOpen C.prog →
      a.holds C.prog (lone (Frame.enter C.prog f args .normal) [] W) →
      Calls C.prog f args W fun e W' => ∃ v, e = .returned v ∧ s.post enc C.prog fn apart fresh handsOn again W args v W') :
    ReturnsInHanded a C os f .any (fun w args => (s.pre enc C.prog fn conds apart w args ∧ X w args) ∧ sizedMet enc C.prog fn (OpenSpec.ofChange s) apart w args) (s.post enc C.prog fn apart fresh handsOn again) := by
  refine returnsInHanded_of_calls own started noInit witness ?_
  intro w tape i _ hsh _ hok hpre hholds
  obtain ⟨_, _, _, fn', hfn', _, _, _, _, hval⟩ := hok
  have e : fn' = fn := Option.some.inj (hfn'.symm.trans hfn)
  subst e
  obtain ⟨⟨⟨ds, gs, before, hw, hc⟩, hx⟩, hz⟩ := hpre
  have hw' := DataW.Whole.of_heap (w' := w.forCall tape i) (by rfl) hw
  refine (contract (w.forCall tape i) w.heap.size i.args ds gs before hval hw' hc (hz.weights hw) (hX _ _ _ (by rfl) hx) hsh hholds).mono fun e W' ⟨v, he, hp⟩ => ?_
  subst he
  exact ChangeSpec.post_blind hp
end Go.Proofs.YtmmbpbgcobmifaaDoorH
end
section
namespace Go.Proofs.YtmmbpbgcobmifaaDoorH
set_option linter.unusedVariables false
set_option linter.unusedSimpArgs false
open Go.RowKit Go.ChangeShapes Go.WideShapes Go.ChangeAt Go.Proofs.YtmmbpbgcobmifaaDoorW.PrintWords
theorem Opens.struct3 {P : Program} {α0 α1 α2 : Type} {d0 : Kd α0} {d1 : Kd α1} {d2 : Kd α2} {t : TypeId} {f0 f1 f2 : Field} {G0 : α0 → Prop} {G1 : α1 → Prop} {G2 : α2 → Prop}
    (h0 : Opens P d0 f0.type G0) (h1 : Opens P d1 f1.type G1) (h2 : Opens P d2 f2.type G2) (hu : P.underlying t = some (.struct #[f0, f1, f2]))
    (o0 : f0.offset = 0) (o1 : f1.offset = d0.sz) (o2 : f2.offset = d0.sz + d1.sz) (hc : P.cellsOf t = d0.sz + (d1.sz + d2.sz)) :
    Opens P (Kd.pair d0 (Kd.pair d1 d2)) t (fun x => G0 x.1 ∧ G1 x.2.1 ∧ G2 x.2.2) := by
  refine ⟨hc, fun {H enc W fuel cs x} hx hl => ?_⟩
  obtain ⟨xs, n, _, rfl, hn, hlen, hf⟩ := DataW.trod_struct hu hx
  match xs, hlen with
  | [y0, y1, y2], _ =>
    have e0 := hf 0 f0 rfl
    have e1 := hf 1 f1 rfl
    have e2 := hf 2 f2 rfl
    have hw : ∀ x, x ∈ DataW.weights P t (.agg [y0.1, y1.1, y2.1]) → x ≤ reachBytes := hl
    rw [weights_agg hu] at hw
    obtain ⟨x0, k0, g0⟩ := h0.open_ e0 (fun x hx => hw x (DataW.weights_mem_each (j := 0) rfl rfl x hx))
    obtain ⟨x1, k1, g1⟩ := h1.open_ e1 (fun x hx => hw x (DataW.weights_mem_each (j := 1) rfl rfl x hx))
    obtain ⟨x2, k2, g2⟩ := h2.open_ e2 (fun x hx => hw x (DataW.weights_mem_each (j := 2) rfl rfl x hx))
    refine ⟨(x0, x1, x2), ⟨_, _, ?_, k0, _, _, rfl, k1, k2⟩, g0, g1, g2⟩
    rw [o0, o1, o2, h0.cells, h1.cells, h2.cells]
    rw [hc] at hn
    have hz : (cs.drop (d0.sz + d1.sz)).take d2.sz = cs.drop (d0.sz + d1.sz) := List.take_of_length_le (by rw [List.length_drop]; omega)
    have hdt : ∀ (a n : Nat), cs.drop a = (cs.drop a).take n ++ cs.drop (a + n) := fun a n => by rw [← List.drop_drop, List.take_append_drop]
    rw [hz, ← hdt, List.drop_zero, List.take_append_drop]
set_option maxRecDepth 100000 in
theorem lim_open {H : Type} {enc : TypeId × Value → H} {W : World} {fuel : Nat} {cs : Array Value} {x : DataW H × List MemPlace}
    (hx : DataW.trod enc Tryd.prog W 0 (fun _ => true) true fuel 23 cs.toList = some x) (hl : Light Tryd.prog 23 x.1) :
    ∃ a b c : Int, cs = #[.int .i64 a, .int .i64 b, .int .i64 c] ∧ (Lit.int .i64 a).wf = true ∧ (Lit.int .i64 b).wf = true ∧ (Lit.int .i64 c).wf = true := by
  have oi := Opens.int Tryd.underlying3 (by kernel_rfl)
  obtain ⟨⟨a, b, c⟩, hK, h1, h2, h3⟩ := (Opens.struct3 oi oi oi Tryd.underlying23 rfl rfl rfl (by kernel_rfl)).open_ hx hl
  obtain ⟨_, _, e, rfl, _, _, rfl, rfl, rfl⟩ := hK
  exact ⟨a, b, c, Array.toList_inj.1 e, h1, h2, h3⟩
end Go.Proofs.YtmmbpbgcobmifaaDoorH
end
