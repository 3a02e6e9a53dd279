import Derived.Test.YtmmbpbgcobmifaaDoorZDechunkPiecesP6
import Derived.Test.YtmmbpbgcobmifaaDoorZDechunkPiecesP3
import Derived.Test.YtmmbpbgcobmifaaDoorZDechunkPiecesP7
import Derived.Test.YtmmbpbgcobmifaaDoorZDechunkPiecesP5
import Derived.Test.YtmmbpbgcobmifaaDoorZDechunkPiecesP1
import Derived.ProofKit
import Derived.OpenShut
import Derived.Deep.Slices
import Derived.SizedLaws
namespace Go.Proofs.YtmmbpbgcobmifaaDoorW.PrintWords
end Go.Proofs.YtmmbpbgcobmifaaDoorW.PrintWords
namespace Go.Proofs.YtmmbpbgcobmifaaDoorW.PrintLast
end Go.Proofs.YtmmbpbgcobmifaaDoorW.PrintLast
namespace Go.Proofs.YtmmbpbgcobmifaaDoorW.PrintMore
end Go.Proofs.YtmmbpbgcobmifaaDoorW.PrintMore
namespace Go.Proofs.YtmmbpbgcobmifaaDoor.Pr
end Go.Proofs.YtmmbpbgcobmifaaDoor.Pr
namespace Go.Proofs.YtmmbpbgcobmifaaDoorM
end Go.Proofs.YtmmbpbgcobmifaaDoorM
namespace Go.Proofs.YtmmbpbgcobmifaaDoorH
end Go.Proofs.YtmmbpbgcobmifaaDoorH
section
namespace Go.Proofs.YtmmbpbgcobmifaaDoor.Pr
end Go.Proofs.YtmmbpbgcobmifaaDoor.Pr
namespace Go.Proofs.YtmmbpbgcobmifaaDoorH
set_option linter.unusedVariables false
set_option linter.unusedSimpArgs false
open Go Go.RowKit Go.Proofs.YtmmbpbgcobmifaaDoorW.PrintWords Go.Proofs.YtmmbpbgcobmifaaDoorW.PrintLast Go.Proofs.YtmmbpbgcobmifaaDoorW.PrintMore Go.Proofs.YtmmbpbgcobmifaaDoor.Pr Go.Proofs.YtmmbpbgcobmifaaDoorM
structure Scan8 (w W : World) (e0 e1 e2 : Nat) (X : MSt Fld) (B0 B1 : Option Addr) (j0 j1 : Nat) : Prop where
  l : W.heap[w.heap.size]? = some (.cells #[Value.int .i64 (e0 : Int), Value.int .i64 (e1 : Int), Value.int .i64 (e2 : Int)] 23 (0, 0))
  g : W.heap[w.heap.size + 1]? = some (.cells #[Value.int .i64 0, Value.int .u64 0, Value.int .i64 0, Value.int .i64 0, Value.int .i64 0, Value.string ⟨#[]⟩, Value.slice none 0 0, Value.slice none 0 0, Value.int .i64 0, Value.int .i64 0] 41 (0, 0))
  s : W.heap[w.heap.size + 1 + 1]? = some (.cells #[Value.int .i64 (X.place : Int), Value.int .u64 (X.n : Int), Value.int .i64 (X.count : Int), Value.int .i64 (X.lines : Int), Value.int .i64 (X.size : Int), Value.string (strOfNums X.text), Value.slice B0 X.data.length j0, Value.slice B1 X.fields.length j1] 39 (0, 0))
  r0 : Kd.C (Kd.int .u8) W B0 X.data.length X.data
  r1 : Kd.C k53 W B1 X.fields.length X.fields
  h0 : X.data.length ≤ j0
  h1 : X.fields.length ≤ j1
  b : Below w.heap.size w W
  fr : ∀ ad, B1 = some ad → w.heap.size ≤ ad.block
abbrev gotV (X : MSt Fld) (dv fv : Value) (at_ : Nat) (er : Int) : Value := .agg #[.int .i64 (X.place : Int), .int .u64 (X.n : Int), .int .i64 (X.count : Int), .int .i64 (X.lines : Int), .int .i64 (X.size : Int), .string (strOfNums X.text), dv, fv, .int .i64 (at_ : Int), .int .i64 er]
set_option maxHeartbeats 4000000 in
set_option maxRecDepth 100000 in
theorem scan8_fresh (A : Option Addr) (c : Nat) (s : List Int) (e0 e1 e2 : Nat) (w : World) (hr : Kd.C (Kd.int .u8) w A s.length s) (hc : s.length ≤ c) (hG : TabOk w) (hs : ByteL s) (hl : s.length ≤ 100000) :
    Calls Tryd.prog 21 #[.slice A s.length c, .agg #[Value.int .i64 (e0 : Int), Value.int .i64 (e1 : Int), Value.int .i64 (e2 : Int)]] w fun e w' => ∃ (X : MSt Fld) (at_ : Nat) (er : Int) (B0 B1 : Option Addr) (j0 j1 : Nat), e = .returned (gotV X (.slice B0 X.data.length j0) (.slice B1 X.fields.length j1) at_ er) ∧ mrun (envM e0 e1 e2) minit s 0 = (X, at_, er) ∧ X.data.length ≤ j0 ∧ X.fields.length ≤ j1 ∧ Kd.C (Kd.int .u8) w' B0 X.data.length X.data ∧ Kd.C k53 w' B1 X.fields.length X.fields ∧ Below w.heap.size w w' ∧ ∀ ad, B1 = some ad → w.heap.size ≤ ad.block := by
  have HK := Aside0.mk (fun (W : World) (h : Below w.heap.size w W) => (⟨Kd.C_below hr h, hG.below h⟩ : Kd.C (Kd.int .u8) W A s.length s ∧ TabOk W))
  have HS := Aside0.mk hs
  clear hr hG hs
  go_enter Tryd.func21, Tryd.ntmps21
  go_wp2_with fail
  go_loopw [6] (fun u6 wr => ∃ (k : Nat) (X : MSt Fld) (B0 B1 : Option Addr) (j0 j1 : Nat), u6 = .int .i64 (k : Int) ∧ k ≤ s.length ∧ X.place ≠ 11 ∧ Aside0 (InvN X k) ∧ Aside0 (mrun (envM e0 e1 e2) minit s 0 = mrun (envM e0 e1 e2) X (s.drop k) k) ∧ Aside0 (Scan8 w wr e0 e1 e2 X B0 B1 j0 j1)) (fun u6 _ => s.length - (intOf u6).toNat)
  case atStart =>
    refine ⟨0, minit, none, none, 0, 0, rfl, Nat.zero_le _, by decide, ⟨invN_init⟩, ⟨rfl⟩, ⟨⟨alloc_keep _ (alloc_keep _ (World.alloc_heap_new w _)), ?_, blk3 w _ _ _ _, ⟨rfl, Nat.zero_le _, fun h => absurd h (Nat.lt_irrefl _)⟩, ⟨rfl, Nat.zero_le _, fun h => absurd h (Nat.lt_irrefl _)⟩, Nat.le_refl _, Nat.le_refl _, below3 (Below.refl _ _) _ _ _, fun ad e => by cases e⟩⟩⟩
    have := World.alloc_heap_new (w.alloc (.cells #[Value.int .i64 (e0 : Int), Value.int .i64 (e1 : Int), Value.int .i64 (e2 : Int)] 23)) (.cells #[Value.int .i64 0, Value.int .u64 0, Value.int .i64 0, Value.int .i64 0, Value.int .i64 0, Value.string ⟨#[]⟩, Value.slice none 0 0, Value.slice none 0 0, Value.int .i64 0, Value.int .i64 0] 41)
    rw [World.size_alloc] at this
    exact alloc_keep _ this
  case round =>
    obtain ⟨k, X, B0, B1, j0, j1, rfl, hk, hp, HI, HM, HQ⟩ := hrel
    by_cases hlt : k < s.length
    · have hlt' : (k : Int) < (s.length : Int) := by omega
      have hge' : (0 : Int) ≤ (k : Int) := by omega
      obtain ⟨ad, eA, _, hcell⟩ := C_u8 (HK.out _ HQ.out.b).1 (by omega)
      have hck := hcell k (s.getD k 0) (by rw [List.getD_eq_getElem?_getD, List.getElem?_eq_getElem hlt]; rfl)
      have hcb := HS.out (s.getD k 0) (by rw [List.getD_eq_getElem?_getD, List.getElem?_eq_getElem hlt]; exact List.getElem_mem hlt)
      have HDR := Aside0.mk (drop_at hlt)
      clear hcell
      subst eA
      generalize s.getD k 0 = x at *
      have HSTEP := Aside0.mk (fun W (h : Below wr.heap.size wr W) => step8_calls e0 e1 e2 X (HI.out.inv8 (by omega) hp) B0 B1 j0 j1 x W (Kd.C_below HQ.out.r0 h) HQ.out.h0 (Kd.C_below HQ.out.r1 h) HQ.out.h1 (HK.out W (HQ.out.b.trans (h.mono HQ.out.b.size))).2 hcb)
      have s0 : wr.cell? ⟨w.heap.size + 1 + 1, 0, none⟩ = some (Value.int .i64 (X.place : Int)) := (blk_cell HQ.out.s 0).trans rfl
      have s1 : wr.cell? ⟨w.heap.size + 1 + 1, 1, none⟩ = some (Value.int .u64 (X.n : Int)) := (blk_cell HQ.out.s 1).trans rfl
      have s2 : wr.cell? ⟨w.heap.size + 1 + 1, 2, none⟩ = some (Value.int .i64 (X.count : Int)) := (blk_cell HQ.out.s 2).trans rfl
      have s3 : wr.cell? ⟨w.heap.size + 1 + 1, 3, none⟩ = some (Value.int .i64 (X.lines : Int)) := (blk_cell HQ.out.s 3).trans rfl
      have s4 : wr.cell? ⟨w.heap.size + 1 + 1, 4, none⟩ = some (Value.int .i64 (X.size : Int)) := (blk_cell HQ.out.s 4).trans rfl
      have s5 : wr.cell? ⟨w.heap.size + 1 + 1, 5, none⟩ = some (Value.string (strOfNums X.text)) := (blk_cell HQ.out.s 5).trans rfl
      have s6 : wr.cell? ⟨w.heap.size + 1 + 1, 6, none⟩ = some (Value.slice B0 X.data.length j0) := (blk_cell HQ.out.s 6).trans rfl
      have s7 : wr.cell? ⟨w.heap.size + 1 + 1, 7, none⟩ = some (Value.slice B1 X.fields.length j1) := (blk_cell HQ.out.s 7).trans rfl
      have l0 : wr.cell? ⟨w.heap.size, 0, none⟩ = some (Value.int .i64 (e0 : Int)) := (blk_cell HQ.out.l 0).trans rfl
      have l1 : wr.cell? ⟨w.heap.size, 1, none⟩ = some (Value.int .i64 (e1 : Int)) := (blk_cell HQ.out.l 1).trans rfl
      have l2 : wr.cell? ⟨w.heap.size, 2, none⟩ = some (Value.int .i64 (e2 : Int)) := (blk_cell HQ.out.l 2).trans rfl
      have HCK := Aside0.mk hck
      have HCB := Aside0.mk hcb
      have HCE := Aside0.mk (fun (W : World) (h : Below wr.heap.size wr W) => (show W.cell? ⟨w.heap.size + 1 + 1, 0, none⟩ = some (Value.int .i64 (X.place : Int)) ∧ W.cell? ⟨w.heap.size + 1 + 1, 1, none⟩ = some (Value.int .u64 (X.n : Int)) ∧ W.cell? ⟨w.heap.size + 1 + 1, 2, none⟩ = some (Value.int .i64 (X.count : Int)) ∧ W.cell? ⟨w.heap.size + 1 + 1, 3, none⟩ = some (Value.int .i64 (X.lines : Int)) ∧ W.cell? ⟨w.heap.size + 1 + 1, 4, none⟩ = some (Value.int .i64 (X.size : Int)) ∧ W.cell? ⟨w.heap.size + 1 + 1, 5, none⟩ = some (Value.string (strOfNums X.text)) ∧ W.cell? ⟨w.heap.size + 1 + 1, 6, none⟩ = some (Value.slice B0 X.data.length j0) ∧ W.cell? ⟨w.heap.size + 1 + 1, 7, none⟩ = some (Value.slice B1 X.fields.length j1) ∧ W.cell? ⟨w.heap.size, 0, none⟩ = some (Value.int .i64 (e0 : Int)) ∧ W.cell? ⟨w.heap.size, 1, none⟩ = some (Value.int .i64 (e1 : Int)) ∧ W.cell? ⟨w.heap.size, 2, none⟩ = some (Value.int .i64 (e2 : Int)) ∧ W.cell? (ad.add k) = some (.int .u8 x) from ⟨(blk_cell ((h.block _ (blk_lt HQ.out.s)).trans HQ.out.s) 0).trans rfl, (blk_cell ((h.block _ (blk_lt HQ.out.s)).trans HQ.out.s) 1).trans rfl, (blk_cell ((h.block _ (blk_lt HQ.out.s)).trans HQ.out.s) 2).trans rfl, (blk_cell ((h.block _ (blk_lt HQ.out.s)).trans HQ.out.s) 3).trans rfl, (blk_cell ((h.block _ (blk_lt HQ.out.s)).trans HQ.out.s) 4).trans rfl, (blk_cell ((h.block _ (blk_lt HQ.out.s)).trans HQ.out.s) 5).trans rfl, (blk_cell ((h.block _ (blk_lt HQ.out.s)).trans HQ.out.s) 6).trans rfl, (blk_cell ((h.block _ (blk_lt HQ.out.s)).trans HQ.out.s) 7).trans rfl, (blk_cell ((h.block _ (blk_lt HQ.out.l)).trans HQ.out.l) 0).trans rfl, (blk_cell ((h.block _ (blk_lt HQ.out.l)).trans HQ.out.l) 1).trans rfl, (blk_cell ((h.block _ (blk_lt HQ.out.l)).trans HQ.out.l) 2).trans rfl, pw_cell_below h HCK.out⟩))
      have HA := Aside0.mk (fun W W' (h : Below wr.heap.size wr W) (h2 : Below W.heap.size W W') => h.trans (h2.mono h.size))
      have HD := Aside0.mk (below_drew (Below.refl wr.heap.size wr))
      have HAL := Aside0.mk (below_drew (below_alloc (Below.refl wr.heap.size wr) (.cells #[Value.int .i64 0, Value.int .u64 0, Value.int .i64 0, Value.int .i64 0, Value.int .i64 0, Value.string ⟨#[]⟩, Value.slice none 0 0, Value.slice none 0 0] 39)))
      have HBK := Aside0.mk (fun W' (h : Below (wr.alloc (.cells #[Value.int .i64 0, Value.int .u64 0, Value.int .i64 0, Value.int .i64 0, Value.int .i64 0, Value.string ⟨#[]⟩, Value.slice none 0 0, Value.slice none 0 0] 39)).drew.heap.size (wr.alloc (.cells #[Value.int .i64 0, Value.int .u64 0, Value.int .i64 0, Value.int .i64 0, Value.int .i64 0, Value.string ⟨#[]⟩, Value.slice none 0 0, Value.slice none 0 0] 39)).drew W') => (h.block _ (blk_lt (blk_drew (World.alloc_heap_new wr (.cells #[Value.int .i64 0, Value.int .u64 0, Value.int .i64 0, Value.int .i64 0, Value.int .i64 0, Value.string ⟨#[]⟩, Value.slice none 0 0, Value.slice none 0 0] 39))))).trans (blk_drew (World.alloc_heap_new wr (.cells #[Value.int .i64 0, Value.int .u64 0, Value.int .i64 0, Value.int .i64 0, Value.int .i64 0, Value.string ⟨#[]⟩, Value.slice none 0 0, Value.slice none 0 0] 39))))
      have hwl : w.heap.size + 1 + 1 < wr.heap.size := blk_lt HQ.out.s
      have d := HCE.out _ HD.out
      clear s0 s1 s2 s3 s4 s5 s6 s7 l0 l1 l2 hck
      go_upto_region 5 with (fail)
      have HPL := Aside0.mk HQ.out.b.size
      go_cut [7, 8] (fun u7 u8 wc => ∃ (gx : Nat) (Y : MSt Fld) (er : Int) (C0 C1 : Option Addr) (i0 i1 : Nat), u7 = .pointer (some ⟨gx, 0, none⟩) ∧ u8 = .int .i64 er ∧ Aside0 (wc.heap[gx]? = some (.cells #[Value.int .i64 (Y.place : Int), Value.int .u64 (Y.n : Int), Value.int .i64 (Y.count : Int), Value.int .i64 (Y.lines : Int), Value.int .i64 (Y.size : Int), Value.string (strOfNums Y.text), Value.slice C0 Y.data.length i0, Value.slice C1 Y.fields.length i1] 39 (0, 0))) ∧ Aside0 (wr.heap.size ≤ gx) ∧ Aside0 (Below wr.heap.size wr wc) ∧ Aside0 (mstep (envM e0 e1 e2) X x = .ok Y ∧ er = 0 ∨ mstep (envM e0 e1 e2) X x = .error er ∧ er ≠ 0) ∧ Aside0 (Y.data.length ≤ i0 ∧ Kd.C (Kd.int .u8) wc C0 Y.data.length Y.data) ∧ Aside0 (Y.fields.length ≤ i1 ∧ Kd.C k53 wc C1 Y.fields.length Y.fields) ∧ Aside0 (C1 = B1 ∨ ∀ ad, C1 = some ad → wr.heap.size ≤ ad.block))
      case first =>
        go_region_held3 (fun WW => WW.cell? ⟨w.heap.size + 1 + 1, 0, none⟩ = some (Value.int .i64 (X.place : Int)) ∧ WW.cell? ⟨w.heap.size + 1 + 1, 1, none⟩ = some (Value.int .u64 (X.n : Int)) ∧ WW.cell? ⟨w.heap.size + 1 + 1, 2, none⟩ = some (Value.int .i64 (X.count : Int)) ∧ WW.cell? ⟨w.heap.size + 1 + 1, 3, none⟩ = some (Value.int .i64 (X.lines : Int)) ∧ WW.cell? ⟨w.heap.size + 1 + 1, 4, none⟩ = some (Value.int .i64 (X.size : Int)) ∧ WW.cell? ⟨w.heap.size + 1 + 1, 5, none⟩ = some (Value.string (strOfNums X.text)) ∧ WW.cell? ⟨w.heap.size + 1 + 1, 6, none⟩ = some (Value.slice B0 X.data.length j0) ∧ WW.cell? ⟨w.heap.size + 1 + 1, 7, none⟩ = some (Value.slice B1 X.fields.length j1) ∧ WW.cell? ⟨w.heap.size, 0, none⟩ = some (Value.int .i64 (e0 : Int)) ∧ WW.cell? ⟨w.heap.size, 1, none⟩ = some (Value.int .i64 (e1 : Int)) ∧ WW.cell? ⟨w.heap.size, 2, none⟩ = some (Value.int .i64 (e2 : Int)) ∧ WW.cell? (ad.add k) = some (.int .u8 x)) (first | with_reducible exact d | with_reducible exact y | with_reducible exact HCE.out _ (below_alloc HB7.out _) | with_reducible exact HCE.out _ HAL.out | exact HCE.out _ (bset (bset (bset (bset (bset (bset (bset (bset HB7.out _ _ _ (Nat.le_refl _)) _ _ _ (Nat.le_refl _)) _ _ _ (Nat.le_refl _)) _ _ _ (Nat.le_refl _)) _ _ _ (Nat.le_refl _)) _ _ _ (Nat.le_refl _)) _ _ _ (Nat.le_refl _)) _ _ _ (Nat.le_refl _)))
          (first
            | (go_at_call 40; refine (HSTEP.out _ HD.out).mono ?_; rintro e w7 ⟨Y, er, C0, C1, i0, i1, rfl, hi0, hi1, hc0, hc1, hb7, hm, hfr⟩; have HB7 := Aside0.mk (HA.out _ _ HD.out hb7); have y := HCE.out _ HB7.out; have HM7 := Aside0.mk hm; have HFR := Aside0.mk (hfr.imp_right (fun h ad e => Nat.le_trans HD.out.size (h ad e))); have HC0 := Aside0.mk (And.intro hi0 hc0); have HC1 := Aside0.mk (And.intro hi1 hc1); clear hi0 hi1 hc0 hc1 hb7 hm hfr)
            | (go_at_call 40; refine (HSTEP.out _ HAL.out).mono ?_; rintro e w7 ⟨Y, er, C0, C1, i0, i1, rfl, hi0, hi1, hc0, hc1, hb7, hm, hfr⟩; have HB7 := Aside0.mk (HA.out _ _ HAL.out hb7); have y := HCE.out _ HB7.out; have HM7 := Aside0.mk hm; have HFR := Aside0.mk (hfr.imp_right (fun h ad e => Nat.le_trans HAL.out.size (h ad e))); have HC0 := Aside0.mk (And.intro hi0 hc0); have HC1 := Aside0.mk (And.intro hi1 hc1); have hbk := HBK.out _ hb7; have p0 : w7.cell? ⟨wr.heap.size, 0, none⟩ = some (Value.int .i64 0) := (blk_cell hbk 0).trans rfl; have fz0 := blk_frozen hbk 0; have p1 : w7.cell? ⟨wr.heap.size, 1, none⟩ = some (Value.int .u64 0) := (blk_cell hbk 1).trans rfl; have fz1 := blk_frozen hbk 1; have p2 : w7.cell? ⟨wr.heap.size, 2, none⟩ = some (Value.int .i64 0) := (blk_cell hbk 2).trans rfl; have fz2 := blk_frozen hbk 2; have p3 : w7.cell? ⟨wr.heap.size, 3, none⟩ = some (Value.int .i64 0) := (blk_cell hbk 3).trans rfl; have fz3 := blk_frozen hbk 3; have p4 : w7.cell? ⟨wr.heap.size, 4, none⟩ = some (Value.int .i64 0) := (blk_cell hbk 4).trans rfl; have fz4 := blk_frozen hbk 4; have p5 : w7.cell? ⟨wr.heap.size, 5, none⟩ = some (Value.string ⟨#[]⟩) := (blk_cell hbk 5).trans rfl; have fz5 := blk_frozen hbk 5; have p6 : w7.cell? ⟨wr.heap.size, 6, none⟩ = some (Value.slice none 0 0) := (blk_cell hbk 6).trans rfl; have fz6 := blk_frozen hbk 6; have p7 : w7.cell? ⟨wr.heap.size, 7, none⟩ = some (Value.slice none 0 0) := (blk_cell hbk 7).trans rfl; have fz7 := blk_frozen hbk 7; have HBK7 := Aside0.mk hbk; clear hi0 hi1 hc0 hc1 hb7 hm hfr hbk))
        · go_wp2
          go_meet
          case rel =>
            exact ⟨_, Y, er, C0, C1, i0, i1, rfl, rfl, ⟨World.alloc_heap_new w7 _⟩, ⟨HB7.out.size⟩, ⟨below_alloc HB7.out _⟩, HM7, ⟨HC0.out.1, Kd.C_below HC0.out.2 (below_alloc (Below.refl _ _) _)⟩, ⟨HC1.out.1, Kd.C_below HC1.out.2 (below_alloc (Below.refl _ _) _)⟩, HFR⟩
        · go_wp2
          go_meet
          case rel =>
            exact ⟨_, Y, er, C0, C1, i0, i1, rfl, rfl, ⟨put8 HBK7.out _ _ _ _ _ _ _ _⟩, ⟨Nat.le_refl _⟩, ⟨below_put8 HB7.out _ (Nat.le_refl _) _ _ _ _ _ _ _ _⟩, HM7, ⟨HC0.out.1, C8_keep HBK7.out (noRow8 0 0 0 0 0 _ none none 0 0 0 0) (fun k hk => far8 _ _ _ _ _ _ _ _ _ _ k hk) HC0.out.2⟩, ⟨HC1.out.1, CF_keep HBK7.out (noRow8 0 0 0 0 0 _ none none 0 0 0 0) (fun k hk => far8 _ _ _ _ _ _ _ _ _ _ k hk) HC1.out.2⟩, HFR⟩
      case rest =>
        obtain ⟨gx, Y, er, C0, C1, i0, i1, rfl, rfl, HX, HGX, HBW, HM7, HC0, HC1, HFRC⟩ := hcut
        have HFQ := Aside0.mk (show ∀ ad, C1 = some ad → w.heap.size ≤ ad.block from fun ad e => HFRC.out.elim (fun h => HQ.out.fr ad (h ▸ e)) (fun h => Nat.le_trans HQ.out.b.size (h ad e)))
        obtain ⟨s0, s1, s2, s3, s4, s5, s6, s7, l0, l1, l2, ck⟩ := HCE.out _ HBW.out
        have hg1 := (HBW.out.block _ (blk_lt HQ.out.g)).trans HQ.out.g
        have HG1 := Aside0.mk hg1
        have g0 : wc.cell? ⟨w.heap.size + 1, 0, none⟩ = some (Value.int .i64 0) := (blk_cell hg1 0).trans rfl
        have gf0 := blk_frozen hg1 0
        have g1 : wc.cell? ⟨w.heap.size + 1, 1, none⟩ = some (Value.int .u64 0) := (blk_cell hg1 1).trans rfl
        have gf1 := blk_frozen hg1 1
        have g2 : wc.cell? ⟨w.heap.size + 1, 2, none⟩ = some (Value.int .i64 0) := (blk_cell hg1 2).trans rfl
        have gf2 := blk_frozen hg1 2
        have g3 : wc.cell? ⟨w.heap.size + 1, 3, none⟩ = some (Value.int .i64 0) := (blk_cell hg1 3).trans rfl
        have gf3 := blk_frozen hg1 3
        have g4 : wc.cell? ⟨w.heap.size + 1, 4, none⟩ = some (Value.int .i64 0) := (blk_cell hg1 4).trans rfl
        have gf4 := blk_frozen hg1 4
        have g5 : wc.cell? ⟨w.heap.size + 1, 5, none⟩ = some (Value.string ⟨#[]⟩) := (blk_cell hg1 5).trans rfl
        have gf5 := blk_frozen hg1 5
        have g6 : wc.cell? ⟨w.heap.size + 1, 6, none⟩ = some (Value.slice none 0 0) := (blk_cell hg1 6).trans rfl
        have gf6 := blk_frozen hg1 6
        have g7 : wc.cell? ⟨w.heap.size + 1, 7, none⟩ = some (Value.slice none 0 0) := (blk_cell hg1 7).trans rfl
        have gf7 := blk_frozen hg1 7
        have g8 : wc.cell? ⟨w.heap.size + 1, 8, none⟩ = some (Value.int .i64 0) := (blk_cell hg1 8).trans rfl
        have gf8 := blk_frozen hg1 8
        have g9 : wc.cell? ⟨w.heap.size + 1, 9, none⟩ = some (Value.int .i64 0) := (blk_cell hg1 9).trans rfl
        have gf9 := blk_frozen hg1 9
        clear hg1
        clear l0 l1 l2 ck
        rcases HM7.out with ⟨hok, rfl⟩ | ⟨herr, he⟩
        · have x0 := HX.out
          have HOK := Aside0.mk hok
          have xx0 : wc.cell? ⟨gx, 0, none⟩ = some (Value.int .i64 (Y.place : Int)) := (blk_cell x0 0).trans rfl
          have xx1 : wc.cell? ⟨gx, 1, none⟩ = some (Value.int .u64 (Y.n : Int)) := (blk_cell x0 1).trans rfl
          have xx2 : wc.cell? ⟨gx, 2, none⟩ = some (Value.int .i64 (Y.count : Int)) := (blk_cell x0 2).trans rfl
          have xx3 : wc.cell? ⟨gx, 3, none⟩ = some (Value.int .i64 (Y.lines : Int)) := (blk_cell x0 3).trans rfl
          have xx4 : wc.cell? ⟨gx, 4, none⟩ = some (Value.int .i64 (Y.size : Int)) := (blk_cell x0 4).trans rfl
          have xx5 : wc.cell? ⟨gx, 5, none⟩ = some (Value.string (strOfNums Y.text)) := (blk_cell x0 5).trans rfl
          have xx6 : wc.cell? ⟨gx, 6, none⟩ = some (Value.slice C0 Y.data.length i0) := (blk_cell x0 6).trans rfl
          have xx7 : wc.cell? ⟨gx, 7, none⟩ = some (Value.slice C1 Y.fields.length i1) := (blk_cell x0 7).trans rfl
          have hsb := (HBW.out.block _ (blk_lt HQ.out.s)).trans HQ.out.s
          have sf0 := blk_frozen hsb 0
          have sf1 := blk_frozen hsb 1
          have sf2 := blk_frozen hsb 2
          have sf3 := blk_frozen hsb 3
          have sf4 := blk_frozen hsb 4
          have sf5 := blk_frozen hsb 5
          have sf6 := blk_frozen hsb 6
          have sf7 := blk_frozen hsb 7
          clear x0 hok hsb
          go_upto_region 9 with (fail)
          obtain ⟨k1, hk1⟩ : ∃ k1, k + 1 = k1 := ⟨_, rfl⟩
          have hw1 : IntKind.i64.wrap ((k : Int) + 1) = (k1 : Int) := by
            unfold IntKind.wrap
            simp [IntKind.bits, IntKind.signed]
            omega
          obtain ⟨W2, hW2⟩ : ∃ W2, ((((((((wc.setCell ⟨w.heap.size + 1 + 1, 0, none⟩ (Value.int .i64 (Y.place : Int))).setCell ⟨w.heap.size + 1 + 1, 1, none⟩ (Value.int .u64 (Y.n : Int))).setCell ⟨w.heap.size + 1 + 1, 2, none⟩ (Value.int .i64 (Y.count : Int))).setCell ⟨w.heap.size + 1 + 1, 3, none⟩ (Value.int .i64 (Y.lines : Int))).setCell ⟨w.heap.size + 1 + 1, 4, none⟩ (Value.int .i64 (Y.size : Int))).setCell ⟨w.heap.size + 1 + 1, 5, none⟩ (Value.string (strOfNums Y.text))).setCell ⟨w.heap.size + 1 + 1, 6, none⟩ (Value.slice C0 Y.data.length i0)).setCell ⟨w.heap.size + 1 + 1, 7, none⟩ (Value.slice C1 Y.fields.length i1)) = W2 := ⟨_, rfl⟩
          have HK2 := Aside0.mk (show ∀ q, q ≠ w.heap.size + 1 + 1 → W2.heap[q]? = wc.heap[q]? by intro q hq; rw [← hW2]; exact far8 _ _ _ _ _ _ _ _ _ _ q hq)
          have HS2 := Aside0.mk (show W2.heap[w.heap.size + 1 + 1]? = some (.cells #[Value.int .i64 (Y.place : Int), Value.int .u64 (Y.n : Int), Value.int .i64 (Y.count : Int), Value.int .i64 (Y.lines : Int), Value.int .i64 (Y.size : Int), Value.string (strOfNums Y.text), Value.slice C0 Y.data.length i0, Value.slice C1 Y.fields.length i1] 39 (0, 0)) by rw [← hW2]; exact put8 ((HBW.out.block _ (blk_lt HQ.out.s)).trans HQ.out.s) _ _ _ _ _ _ _ _)
          have HB2 := Aside0.mk (show Below w.heap.size w W2 by rw [← hW2]; exact below_put8 (HQ.out.b.trans (HBW.out.mono HPL.out)) _ (by omega) _ _ _ _ _ _ _ _)
          have HC02 := Aside0.mk (show Kd.C (Kd.int .u8) W2 C0 Y.data.length Y.data from C8_keep ((HBW.out.block _ (blk_lt HQ.out.s)).trans HQ.out.s) (noRow8 _ _ _ _ _ _ _ _ _ _ _ _) HK2.out HC0.out.2)
          have HC12 := Aside0.mk (show Kd.C k53 W2 C1 Y.fields.length Y.fields from CF_keep ((HBW.out.block _ (blk_lt HQ.out.s)).trans HQ.out.s) (noRow8 _ _ _ _ _ _ _ _ _ _ _ _) HK2.out HC1.out.2)
          rw [hW2]
          clear hW2 s0 s1 s2 s3 s4 s5 s6 s7 xx0 xx1 xx2 xx3 xx4 xx5 xx6 xx7 sf0 sf1 sf2 sf3 sf4 sf5 sf6 sf7 g0 gf0 g1 gf1 g2 gf2 g3 gf3 g4 gf4 g5 gf5 g6 gf6 g7 gf7 g8 gf8 g9 gf9
          have hg2 : W2.heap[w.heap.size + 1]? = some (.cells #[Value.int .i64 0, Value.int .u64 0, Value.int .i64 0, Value.int .i64 0, Value.int .i64 0, Value.string ⟨#[]⟩, Value.slice none 0 0, Value.slice none 0 0, Value.int .i64 0, Value.int .i64 0] 41 (0, 0)) := (HK2.out _ (by omega)).trans HG1.out
          have HG2 := Aside0.mk hg2
          have hs2 := HS2.out
          have s0 : W2.cell? ⟨w.heap.size + 1 + 1, 0, none⟩ = some (Value.int .i64 (Y.place : Int)) := (blk_cell hs2 0).trans rfl
          have s1 : W2.cell? ⟨w.heap.size + 1 + 1, 1, none⟩ = some (Value.int .u64 (Y.n : Int)) := (blk_cell hs2 1).trans rfl
          have s2 : W2.cell? ⟨w.heap.size + 1 + 1, 2, none⟩ = some (Value.int .i64 (Y.count : Int)) := (blk_cell hs2 2).trans rfl
          have s3 : W2.cell? ⟨w.heap.size + 1 + 1, 3, none⟩ = some (Value.int .i64 (Y.lines : Int)) := (blk_cell hs2 3).trans rfl
          have s4 : W2.cell? ⟨w.heap.size + 1 + 1, 4, none⟩ = some (Value.int .i64 (Y.size : Int)) := (blk_cell hs2 4).trans rfl
          have s5 : W2.cell? ⟨w.heap.size + 1 + 1, 5, none⟩ = some (Value.string (strOfNums Y.text)) := (blk_cell hs2 5).trans rfl
          have s6 : W2.cell? ⟨w.heap.size + 1 + 1, 6, none⟩ = some (Value.slice C0 Y.data.length i0) := (blk_cell hs2 6).trans rfl
          have s7 : W2.cell? ⟨w.heap.size + 1 + 1, 7, none⟩ = some (Value.slice C1 Y.fields.length i1) := (blk_cell hs2 7).trans rfl
          clear hs2
          have hgt : w.heap.size + 1 + 1 < W2.heap.size := blk_lt HS2.out
          have HK1 := Aside0.mk hk1
          by_cases hp11 : Y.place = 11
          · have hpe : ((Y.place : Int) == 11) = true := by rw [beq_iff_eq]; omega
            have g0 : W2.cell? ⟨w.heap.size + 1, 0, none⟩ = some (Value.int .i64 0) := (blk_cell hg2 0).trans rfl
            have gf0 := blk_frozen hg2 0
            have g1 : W2.cell? ⟨w.heap.size + 1, 1, none⟩ = some (Value.int .u64 0) := (blk_cell hg2 1).trans rfl
            have gf1 := blk_frozen hg2 1
            have g2 : W2.cell? ⟨w.heap.size + 1, 2, none⟩ = some (Value.int .i64 0) := (blk_cell hg2 2).trans rfl
            have gf2 := blk_frozen hg2 2
            have g3 : W2.cell? ⟨w.heap.size + 1, 3, none⟩ = some (Value.int .i64 0) := (blk_cell hg2 3).trans rfl
            have gf3 := blk_frozen hg2 3
            have g4 : W2.cell? ⟨w.heap.size + 1, 4, none⟩ = some (Value.int .i64 0) := (blk_cell hg2 4).trans rfl
            have gf4 := blk_frozen hg2 4
            have g5 : W2.cell? ⟨w.heap.size + 1, 5, none⟩ = some (Value.string ⟨#[]⟩) := (blk_cell hg2 5).trans rfl
            have gf5 := blk_frozen hg2 5
            have g6 : W2.cell? ⟨w.heap.size + 1, 6, none⟩ = some (Value.slice none 0 0) := (blk_cell hg2 6).trans rfl
            have gf6 := blk_frozen hg2 6
            have g7 : W2.cell? ⟨w.heap.size + 1, 7, none⟩ = some (Value.slice none 0 0) := (blk_cell hg2 7).trans rfl
            have gf7 := blk_frozen hg2 7
            have g8 : W2.cell? ⟨w.heap.size + 1, 8, none⟩ = some (Value.int .i64 0) := (blk_cell hg2 8).trans rfl
            have gf8 := blk_frozen hg2 8
            have g9 : W2.cell? ⟨w.heap.size + 1, 9, none⟩ = some (Value.int .i64 0) := (blk_cell hg2 9).trans rfl
            have gf9 := blk_frozen hg2 9
            clear hg2 hk1
            go_wp2
            refine bodyPost_ret (results_cell_row rfl _ _ (w.heap.size + 1) 41 _ (0, 0) _ rfl (put10 HG2.out _ _ _ _ _ _ _ _ _ _) Tryd.underlying41 rfl (by kernel_rfl)) rfl ⟨Y, k1, 0, C0, C1, i0, i1, by unfold gotV; rw [hp11]; rfl, ?_, HC0.out.1, HC1.out.1, ?_, ?_, ?_, HFQ.out⟩
            · rw [HM.out, HDR.out, ← HK1.out]
              exact run_fin HOK.out hp11
            · exact C8_keep HG2.out (noRow10 0 0 0 0 0 0 0 _ none none 0 0 0 0) (fun q hq => far10 _ _ _ _ _ _ _ _ _ _ _ _ q hq) HC02.out
            · exact CF_keep HG2.out (noRow10 0 0 0 0 0 0 0 _ none none 0 0 0 0) (fun q hq => far10 _ _ _ _ _ _ _ _ _ _ _ _ q hq) HC12.out
            · exact below_put10 HB2.out _ (by omega) _ _ _ _ _ _ _ _ _ _
          · have hpe : ((Y.place : Int) == 11) = false := by rw [beq_eq_false_iff_ne]; omega
            clear hg2 hk1
            go_wp2
            go_roundw
            case rel =>
              have hk1 := HK1.out
              refine ⟨k1, Y, C0, C1, i0, i1, rfl, by omega, hp11, ⟨by rw [← hk1]; exact invN_step HI.out HCB.out HOK.out⟩, ⟨by rw [HM.out, HDR.out, ← hk1]; exact run_on HOK.out hp11⟩, ⟨⟨(HK2.out _ (by omega)).trans ((HBW.out.block _ (blk_lt HQ.out.l)).trans HQ.out.l), HG2.out, HS2.out, HC02.out, HC12.out, HC0.out.1, HC1.out.1, HB2.out, HFQ.out⟩⟩⟩
            case measure =>
              have hk1 := HK1.out
              simp [intOf]
              omega
        · have hne : (er != 0) = true := by rw [bne_iff_ne]; exact he
          have HERR := Aside0.mk herr
          clear herr
          go_wp2
          refine bodyPost_ret (results_cell_row rfl _ _ (w.heap.size + 1) 41 _ (0, 0) _ rfl (put10 HG1.out _ _ _ _ _ _ _ _ _ _) Tryd.underlying41 rfl (by kernel_rfl)) rfl ⟨X, k, er, B0, B1, j0, j1, rfl, ?_, HQ.out.h0, HQ.out.h1, ?_, ?_, ?_, HQ.out.fr⟩
          · rw [HM.out, HDR.out]
            exact run_err HERR.out
          · exact C8_keep HG1.out (noRow10 0 0 0 0 0 0 0 _ none none 0 0 0 0) (fun q hq => far10 _ _ _ _ _ _ _ _ _ _ _ _ q hq) (Kd.C_below HQ.out.r0 HBW.out)
          · exact CF_keep HG1.out (noRow10 0 0 0 0 0 0 0 _ none none 0 0 0 0) (fun q hq => far10 _ _ _ _ _ _ _ _ _ _ _ _ q hq) (Kd.C_below HQ.out.r1 HBW.out)
          · exact below_put10 (HQ.out.b.trans (HBW.out.mono HPL.out)) _ (by omega) _ _ _ _ _ _ _ _ _ _
    · have hkl : k = s.length := by omega
      have HKL := Aside0.mk hkl
      have hlt' : ¬ (k : Int) < (s.length : Int) := by omega
      have hwl : w.heap.size + 1 + 1 < wr.heap.size := blk_lt HQ.out.s
      have HG1 := Aside0.mk HQ.out.g
      have hg1 := HQ.out.g
      have hs2 := HQ.out.s
      have g0 : wr.cell? ⟨w.heap.size + 1, 0, none⟩ = some (Value.int .i64 0) := (blk_cell hg1 0).trans rfl
      have gf0 := blk_frozen hg1 0
      have g1 : wr.cell? ⟨w.heap.size + 1, 1, none⟩ = some (Value.int .u64 0) := (blk_cell hg1 1).trans rfl
      have gf1 := blk_frozen hg1 1
      have g2 : wr.cell? ⟨w.heap.size + 1, 2, none⟩ = some (Value.int .i64 0) := (blk_cell hg1 2).trans rfl
      have gf2 := blk_frozen hg1 2
      have g3 : wr.cell? ⟨w.heap.size + 1, 3, none⟩ = some (Value.int .i64 0) := (blk_cell hg1 3).trans rfl
      have gf3 := blk_frozen hg1 3
      have g4 : wr.cell? ⟨w.heap.size + 1, 4, none⟩ = some (Value.int .i64 0) := (blk_cell hg1 4).trans rfl
      have gf4 := blk_frozen hg1 4
      have g5 : wr.cell? ⟨w.heap.size + 1, 5, none⟩ = some (Value.string ⟨#[]⟩) := (blk_cell hg1 5).trans rfl
      have gf5 := blk_frozen hg1 5
      have g6 : wr.cell? ⟨w.heap.size + 1, 6, none⟩ = some (Value.slice none 0 0) := (blk_cell hg1 6).trans rfl
      have gf6 := blk_frozen hg1 6
      have g7 : wr.cell? ⟨w.heap.size + 1, 7, none⟩ = some (Value.slice none 0 0) := (blk_cell hg1 7).trans rfl
      have gf7 := blk_frozen hg1 7
      have g8 : wr.cell? ⟨w.heap.size + 1, 8, none⟩ = some (Value.int .i64 0) := (blk_cell hg1 8).trans rfl
      have gf8 := blk_frozen hg1 8
      have g9 : wr.cell? ⟨w.heap.size + 1, 9, none⟩ = some (Value.int .i64 0) := (blk_cell hg1 9).trans rfl
      have gf9 := blk_frozen hg1 9
      have s0 : wr.cell? ⟨w.heap.size + 1 + 1, 0, none⟩ = some (Value.int .i64 (X.place : Int)) := (blk_cell hs2 0).trans rfl
      have s1 : wr.cell? ⟨w.heap.size + 1 + 1, 1, none⟩ = some (Value.int .u64 (X.n : Int)) := (blk_cell hs2 1).trans rfl
      have s2 : wr.cell? ⟨w.heap.size + 1 + 1, 2, none⟩ = some (Value.int .i64 (X.count : Int)) := (blk_cell hs2 2).trans rfl
      have s3 : wr.cell? ⟨w.heap.size + 1 + 1, 3, none⟩ = some (Value.int .i64 (X.lines : Int)) := (blk_cell hs2 3).trans rfl
      have s4 : wr.cell? ⟨w.heap.size + 1 + 1, 4, none⟩ = some (Value.int .i64 (X.size : Int)) := (blk_cell hs2 4).trans rfl
      have s5 : wr.cell? ⟨w.heap.size + 1 + 1, 5, none⟩ = some (Value.string (strOfNums X.text)) := (blk_cell hs2 5).trans rfl
      have s6 : wr.cell? ⟨w.heap.size + 1 + 1, 6, none⟩ = some (Value.slice B0 X.data.length j0) := (blk_cell hs2 6).trans rfl
      have s7 : wr.cell? ⟨w.heap.size + 1 + 1, 7, none⟩ = some (Value.slice B1 X.fields.length j1) := (blk_cell hs2 7).trans rfl
      clear hg1 hs2 hkl
      go_wp2
      refine bodyPost_ret (results_cell_row rfl _ _ (w.heap.size + 1) 41 _ (0, 0) _ rfl (put10 HG1.out _ _ _ _ _ _ _ _ _ _) Tryd.underlying41 rfl (by kernel_rfl)) rfl ⟨X, s.length, 4, B0, B1, j0, j1, rfl, ?_, HQ.out.h0, HQ.out.h1, ?_, ?_, ?_, HQ.out.fr⟩
      · rw [HM.out, HKL.out, List.drop_length]
        rfl
      · exact C8_keep HG1.out (noRow10 0 0 0 0 0 0 0 _ none none 0 0 0 0) (fun q hq => far10 _ _ _ _ _ _ _ _ _ _ _ _ q hq) HQ.out.r0
      · exact CF_keep HG1.out (noRow10 0 0 0 0 0 0 0 _ none none 0 0 0 0) (fun q hq => far10 _ _ _ _ _ _ _ _ _ _ _ _ q hq) HQ.out.r1
      · exact below_put10 HQ.out.b _ (by omega) _ _ _ _ _ _ _ _ _ _
end Go.Proofs.YtmmbpbgcobmifaaDoorH
end
section
namespace Go.Proofs.YtmmbpbgcobmifaaDoor.Pr
end Go.Proofs.YtmmbpbgcobmifaaDoor.Pr
namespace Go.Proofs.YtmmbpbgcobmifaaDoorH
set_option linter.unusedVariables false
set_option linter.unusedSimpArgs false
open Go Go.RowKit Go.Proofs.YtmmbpbgcobmifaaDoorW.PrintWords Go.Proofs.YtmmbpbgcobmifaaDoorW.PrintLast Go.Proofs.YtmmbpbgcobmifaaDoorW.PrintMore Go.Proofs.YtmmbpbgcobmifaaDoor.Pr Go.Proofs.YtmmbpbgcobmifaaDoorM
theorem run_place {E : MEnv Fld} : ∀ (r : List Int) (i : Nat) (X : MSt Fld), X.place ≠ 11 → ((mrun E X r i).2.2 = 0 ↔ (mrun E X r i).1.place = 11)
  | [], i, X, h => by simp [mrun, h]
  | c :: r, i, X, h => by
    cases hs : mstep E X c with
    | error e =>
      rw [run_err hs]
      have := mstep_err hs
      constructor
      · intro (h1 : e = 0)
        omega
      · intro h1
        exact absurd h1 h
    | ok x =>
      by_cases hp : x.place = 11
      · rw [run_fin hs hp]
        exact ⟨fun _ => hp, fun _ => rfl⟩
      · rw [run_on hs hp]
        exact run_place r (i + 1) x hp
structure Head9 (w w1 : World) (x0 x1 x2 : Int) : Prop where
  b : Below w.heap.size w w1
  l : w1.heap[w.heap.size]? = some (.cells #[.int .i64 x0, .int .i64 x1, .int .i64 x2] 23 (0, 0))
theorem head9 (w : World) (x0 x1 x2 : Int) : Head9 w (w.alloc (.cells #[.int .i64 x0, .int .i64 x1, .int .i64 x2] 23)) x0 x1 x2 := ⟨below_alloc (Below.refl _ _) _, World.alloc_heap_new w _⟩
theorem Head9.cells {w w1 W : World} {x0 x1 x2 : Int} (h : Head9 w w1 x0 x1 x2) (hW : W.heap[w.heap.size]? = w1.heap[w.heap.size]?) : W.cell? ⟨w.heap.size, 0, none⟩ = some (.int .i64 x0) ∧ W.cell? ⟨w.heap.size, 1, none⟩ = some (.int .i64 x1) ∧ W.cell? ⟨w.heap.size, 2, none⟩ = some (.int .i64 x2) :=
  ⟨(blk_cell (hW.trans h.l) 0).trans rfl, (blk_cell (hW.trans h.l) 1).trans rfl, (blk_cell (hW.trans h.l) 2).trans rfl⟩
theorem ref_right_on (e0 e1 e2 : Nat) (h0 : e0 ≤ 65536) (h1 : e1 ≤ 65536) (h2 : e2 ≤ 65536) (W : World) (hg : TabOk W) : Calls Tryd.prog 14 #[.agg #[.int .i64 (e0 : Int), .int .i64 (e1 : Int), .int .i64 (e2 : Int)]] W fun e w' => e = .returned (.bool true) ∧ Below W.heap.size W w' :=
  catchpitref08_Right.calls (e0 : Int) (e1 : Int) (e2 : Int) true W hg (by rw [Right8_eq]; unfold rightL; simp only [Option.some.injEq, Bool.and_eq_true, decide_eq_true_eq]; omega)
end Go.Proofs.YtmmbpbgcobmifaaDoorH
end
section
namespace Go.Proofs.YtmmbpbgcobmifaaDoor.Pr
end Go.Proofs.YtmmbpbgcobmifaaDoor.Pr
namespace Go.Proofs.YtmmbpbgcobmifaaDoorH
set_option linter.unusedVariables false
set_option linter.unusedSimpArgs false
open Go Go.RowKit Go.Proofs.YtmmbpbgcobmifaaDoorW.PrintWords Go.Proofs.YtmmbpbgcobmifaaDoorW.PrintLast Go.Proofs.YtmmbpbgcobmifaaDoorW.PrintMore Go.Proofs.YtmmbpbgcobmifaaDoor.Pr Go.Proofs.YtmmbpbgcobmifaaDoorM
theorem run_shift {E : MEnv Fld} : ∀ (r : List Int) (i : Nat) (X : MSt Fld), mrun E X r i = ((mrun E X r 0).1, i + (mrun E X r 0).2.1, (mrun E X r 0).2.2)
  | [], i, X => by simp [mrun]
  | c :: r, i, X => by
    cases hs : mstep E X c with
    | error e => rw [run_err hs, run_err hs]; rfl
    | ok x =>
      by_cases hp : x.place = 11
      · rw [run_fin hs hp, run_fin hs hp]
      · rw [run_on hs hp, run_on hs hp, run_shift r (i + 1) x, run_shift r (0 + 1) x]
        simp only [Nat.zero_add, Nat.add_assoc]
theorem AtD.own_ge {W : World} {B b e0 e1 e2 : Nat} {X : MSt Fld} {co : Nat} {lv fv : Value} {tk gv : Nat} {er : Int} (h : AtD W B b e0 e1 e2 X co lv fv tk gv er) {k : Nat} (hk : Own3 b lv fv k) : B ≤ k := by
  rcases hk with rfl | hk | hk
  · exact h.hb
  · exact (h.l.at k hk).1
  · exact (h.f.at k hk).1
theorem AtD.moves {W W1 : World} {B b e0 e1 e2 : Nat} {X : MSt Fld} {co : Nat} {lv fv : Value} {tk gv : Nat} {er : Int} {S S' : Nat → Prop} (h : AtD W B b e0 e1 e2 X co lv fv tk gv er) (hm : Moves W W1 S S') (hn : ∀ k, Own3 b lv fv k → ¬ S k) : AtD W1 B b e0 e1 e2 X co lv fv tk gv er :=
  ⟨hm.bl _ _ h.i (hn b (.inl rfl)), h.l.move fun k hk => by
    obtain ⟨_, cs, hc⟩ := h.l.at k hk
    rw [hc]
    exact hm.bl _ _ hc (hn k (.inr (.inl hk))), h.f.move fun k hk => by
    obtain ⟨_, cs, hc⟩ := h.f.at k hk
    rw [hc]
    exact hm.bl _ _ hc (hn k (.inr (.inr hk))), h.hb⟩
theorem invN_run {e0 e1 e2 : Nat} : ∀ (r : List Int) (i j : Nat) (X Y : MSt Fld) (a : Nat), InvN X j → (∀ c ∈ r, 0 ≤ c ∧ c ≤ 255) → mrun (envM e0 e1 e2) X r i = (Y, a, 4) → InvN Y (j + r.length)
  | [], i, j, X, Y, a, h, hb, hr => by
    cases hr
    exact h
  | c :: r, i, j, X, Y, a, h, hb, hr => by
    cases hs : mstep (envM e0 e1 e2) X c with
    | error e =>
      rw [run_err hs] at hr
      simp only [Prod.mk.injEq] at hr
      have := mstep_err hs
      omega
    | ok x =>
      by_cases hp : x.place = 11
      · rw [run_fin hs hp] at hr
        simp only [Prod.mk.injEq] at hr
        omega
      · rw [run_on hs hp] at hr
        have := invN_run r (i + 1) (j + 1) x Y a (invN_step h (hb c List.mem_cons_self) hs) (fun d hd => hb d (List.mem_cons_of_mem _ hd)) hr
        rw [List.length_cons, show j + (r.length + 1) = j + 1 + r.length by omega]
        exact this
end Go.Proofs.YtmmbpbgcobmifaaDoorH
end
section
namespace Go.Proofs.YtmmbpbgcobmifaaDoorH
open Go.RowKit Go.ChangeShapes Go.WideShapes Go.ChangeAt Go.Proofs.YtmmbpbgcobmifaaDoorW.PrintWords
def Light {H : Type} (P : Program) (t : TypeId) (d : DataW H) : Prop := ∀ x ∈ DataW.weights P t d, x ≤ reachBytes
structure Opens (P : Program) {α : Type} (d : Kd α) (t : TypeId) (G : α → Prop) : Prop where
  cells : P.cellsOf t = d.sz
  open_ : ∀ {H : Type} {enc : TypeId × Value → H} {W : World} {fuel : Nat} {cs : List Value} {x : DataW H × List MemPlace},
    DataW.trod enc P W 0 (fun _ => true) true fuel t cs = some x → Light P t x.1 → ∃ y, d.K W y cs ∧ G y
theorem Opens.int {P : Program} {t : TypeId} {k : IntKind} (hu : P.underlying t = some (.int k)) (hc : P.cellsOf t = 1) : Opens P (Kd.int k) t (fun n => (Lit.int k n).wf = true) := by
  refine ⟨hc, fun h _ => ?_⟩
  obtain ⟨n, e1, e2, wf⟩ := DataW.trod_int hu h
  exact ⟨n, e1, wf⟩
theorem Opens.bool {P : Program} {t : TypeId} (hu : P.underlying t = some .bool) (hc : P.cellsOf t = 1) : Opens P Kd.bool t (fun _ => True) := by
  refine ⟨hc, fun {_ _ _ fuel cs _} h _ => ?_⟩
  cases fuel with
  | zero => simp [DataW.trod] at h
  | succ m =>
    unfold DataW.trod at h
    rw [hu] at h
    match cs, h with
    | [.bool b], _ => exact ⟨b, rfl, trivial⟩
theorem Opens.string {P : Program} {t : TypeId} (hu : P.underlying t = some .string) (hc : P.cellsOf t = 1) : Opens P Kd.string t (fun s => s.size ≤ 140737488351232) := by
  refine ⟨hc, fun h hl => ?_⟩
  obtain ⟨s, e1, e2, _⟩ := DataW.trod_string hu h
  refine ⟨s, e1, ?_⟩
  subst e2
  have := hl s.data.toList.length (by simp [DataW.weights])
  rw [data_length] at this
  exact this
theorem weightsAll_mem {H : Type} (P : Program) (e : TypeId) : ∀ (l : List (DataW H)) (d : DataW H), d ∈ l → ∀ x ∈ DataW.weights P e d, x ∈ DataW.weightsAll P e l
  | [], d, h, _, _ => by cases h
  | a :: l, d, h, x, hx => by
    rw [DataW.weightsAll]
    rcases List.mem_cons.1 h with rfl | h
    · exact List.mem_append_left _ hx
    · exact List.mem_append_right _ (weightsAll_mem P e l d h x hx)
theorem list_of {α : Type} {p : Nat → α → Prop} : ∀ n : Nat, (∀ i, i < n → ∃ y, p i y) → ∃ l : List α, l.length = n ∧ ∀ i y, l[i]? = some y → p i y
  | 0, _ => ⟨[], rfl, fun i y h => by simp at h⟩
  | n + 1, h => by
    obtain ⟨l, hl, hp⟩ := list_of n (fun i hi => h i (by omega))
    obtain ⟨y, hy⟩ := h n (by omega)
    refine ⟨l ++ [y], by simp [hl], fun i z hz => ?_⟩
    rcases Nat.lt_or_ge i n with hi | hi
    · rw [List.getElem?_append_left (by omega)] at hz
      exact hp i z hz
    · rw [List.getElem?_append_right (by omega), hl] at hz
      rcases Nat.eq_zero_or_pos (i - n) with h0 | h0
      · rw [h0] at hz
        obtain rfl : i = n := by omega
        obtain rfl : y = z := by simpa using hz
        exact hy
      · rw [List.getElem?_eq_none (by simp; omega)] at hz
        cases hz
theorem add_add (a : Addr) (i j : Nat) : (a.add i).add j = a.add (i + j) := by
  unfold Addr.add
  by_cases h1 : i = 0
  · subst h1; simp
  · by_cases h2 : j = 0
    · subst h2; simp [h1]
    · simp [h1, h2, Nat.add_assoc]
theorem cells_at {W : World} {base : Nat} {a : Addr} {n : Nat} {cs : List Value} (h : W.cells? base a n = some cs) : cs.length = n ∧ ∀ (i : Nat) u, cs[i]? = some u → W.cell? (a.add i) = some u := by
  obtain ⟨_, hn, hc⟩ := World.cells?_some h
  refine ⟨hn, fun i u hu => ?_⟩
  have hi : i < n := by
    rcases Nat.lt_or_ge i n with hi | hi
    · exact hi
    · rw [List.getElem?_eq_none (by omega)] at hu; cases hu
  rw [hc i hi, hu]
theorem Opens.slice {P : Program} {α : Type} {d : Kd α} {t e : TypeId} {G : α → Prop} (h : Opens P d e G) (hu : P.underlying t = some (.slice e)) (hc : P.cellsOf t = 1) {B : Nat} (hB : P.bytesOf e = B) :
    Opens P (Kd.slice e d) t (fun l => l.length * B ≤ 140737488351232 ∧ ∀ y ∈ l, G y) := by
  refine ⟨hc, fun {H enc W fuel cs x} hx hl => ?_⟩
  rcases Deep.open_slice hu hx with ⟨rfl, rfl⟩ | ⟨a, len, cap, m, n, D, Pl, rfl, _, hle, hm, hmm, rfl, hel⟩
  · exact ⟨[], ⟨none, 0, rfl, Nat.le_refl _, rfl, by simp, fun h => by simp at h⟩, by simp, fun y hy => by cases hy⟩
  · simp only [if_true] at hmm
    subst hmm
    have hw : (len + (m - len)) * B ≤ 140737488351232 := by
      have := hl ((len + (m - len)) * B) (by
        unfold DataW.weights
        simp only [hu, hB]
        simp)
      exact this
    have hget : ∀ i, i < len → ∃ y, (∃ c, c.length = d.sz ∧ d.K W y c ∧ ∀ j u, c[j]? = some u → W.cell? (a.add (i * d.sz + j)) = some u) ∧ G y := by
      intro i hi
      obtain ⟨cs', h1, h2⟩ := hel i (by omega)
      obtain ⟨y, hy, hg⟩ := h.open_ h2 (fun x hx => hl x (by
        unfold DataW.weights
        simp only [hu]
        refine List.mem_cons_of_mem _ (List.mem_append_left _ (weightsAll_mem P e _ (D i) ?_ x hx))
        exact List.mem_map.2 ⟨i, List.mem_range.2 hi, rfl⟩))
      obtain ⟨hn, hcell⟩ := cells_at h1
      refine ⟨y, ⟨cs', by rw [hn, h.cells], hy, fun j u hj => ?_⟩, hg⟩
      have := hcell j u hj
      rw [add_add, h.cells] at this
      exact this
    obtain ⟨l, hll, hat⟩ := list_of len hget
    refine ⟨l, ⟨some a, m, by rw [hll], by omega, rfl, by rw [hll]; unfold maxLen at hm; omega, fun _ => ⟨a, rfl, fun j p hj => (hat j p hj).1⟩⟩, ?_, fun y hy => ?_⟩
    · rw [hll]
      exact Nat.le_trans (Nat.mul_le_mul_right _ (by omega)) hw
    · obtain ⟨i, hi, rfl⟩ := List.mem_iff_getElem.1 hy
      exact (hat i _ (List.getElem?_eq_getElem hi)).2
theorem weights_agg {H : Type} {P : Program} {t : TypeId} {fs : Array Field} (hu : P.underlying t = some (.struct fs)) (xs : List (DataW H)) : DataW.weights P t (.agg xs) = DataW.weightsEach P (fs.toList.map (·.type)) xs := by
  simp [DataW.weights, hu]
theorem light_of {H : Type} {P : Program} {ts : List TypeId} {ds : List (DataW H)} (h : (DataW.weightsEach P ts ds).all (· ≤ reachBytes) = true) {j : Nat} {t : TypeId} {d : DataW H} (ht : ts[j]? = some t) (hd : ds[j]? = some d) : Light P t d := fun x hx => by
  have := List.all_eq_true.1 h x (DataW.weights_mem_each ht hd x hx)
  simpa using this
theorem Opens.iso {P : Program} {α β : Type} {d : Kd α} {t : TypeId} {G : α → Prop} (h : Opens P d t G) (f : β → α) (g : α → β) (hfg : ∀ y, f (g y) = y) : Opens P (Kd.iso d f) t (fun x => G (f x)) := by
  refine ⟨h.cells, fun {H enc W fuel cs x} hx hl => ?_⟩
  obtain ⟨y, hk, hg⟩ := h.open_ hx hl
  exact ⟨g y, show d.K W (f (g y)) cs by rw [hfg]; exact hk, by rw [hfg]; exact hg⟩
end Go.Proofs.YtmmbpbgcobmifaaDoorH
end
section
namespace Go.Proofs.YtmmbpbgcobmifaaDoorH
set_option linter.unusedVariables false
set_option linter.unusedSimpArgs false
open Go.RowKit Go.ChangeShapes Go.WideShapes Go.ChangeAt Go.Proofs.YtmmbpbgcobmifaaDoorW.PrintWords
theorem Opens.struct3 {P : Program} {α0 α1 α2 : Type} {d0 : Kd α0} {d1 : Kd α1} {d2 : Kd α2} {t : TypeId} {f0 f1 f2 : Field} {G0 : α0 → Prop} {G1 : α1 → Prop} {G2 : α2 → Prop}
    (h0 : Opens P d0 f0.type G0) (h1 : Opens P d1 f1.type G1) (h2 : Opens P d2 f2.type G2) (hu : P.underlying t = some (.struct #[f0, f1, f2]))
    (o0 : f0.offset = 0) (o1 : f1.offset = d0.sz) (o2 : f2.offset = d0.sz + d1.sz) (hc : P.cellsOf t = d0.sz + (d1.sz + d2.sz)) :
    Opens P (Kd.pair d0 (Kd.pair d1 d2)) t (fun x => G0 x.1 ∧ G1 x.2.1 ∧ G2 x.2.2) := by
  refine ⟨hc, fun {H enc W fuel cs x} hx hl => ?_⟩
  obtain ⟨xs, n, _, rfl, hn, hlen, hf⟩ := DataW.trod_struct hu hx
  match xs, hlen with
  | [y0, y1, y2], _ =>
    have e0 := hf 0 f0 rfl
    have e1 := hf 1 f1 rfl
    have e2 := hf 2 f2 rfl
    have hw : ∀ x, x ∈ DataW.weights P t (.agg [y0.1, y1.1, y2.1]) → x ≤ reachBytes := hl
    rw [weights_agg hu] at hw
    obtain ⟨x0, k0, g0⟩ := h0.open_ e0 (fun x hx => hw x (DataW.weights_mem_each (j := 0) rfl rfl x hx))
    obtain ⟨x1, k1, g1⟩ := h1.open_ e1 (fun x hx => hw x (DataW.weights_mem_each (j := 1) rfl rfl x hx))
    obtain ⟨x2, k2, g2⟩ := h2.open_ e2 (fun x hx => hw x (DataW.weights_mem_each (j := 2) rfl rfl x hx))
    refine ⟨(x0, x1, x2), ⟨_, _, ?_, k0, _, _, rfl, k1, k2⟩, g0, g1, g2⟩
    rw [o0, o1, o2, h0.cells, h1.cells, h2.cells]
    rw [hc] at hn
    have hz : (cs.drop (d0.sz + d1.sz)).take d2.sz = cs.drop (d0.sz + d1.sz) := List.take_of_length_le (by rw [List.length_drop]; omega)
    have hdt : ∀ (a n : Nat), cs.drop a = (cs.drop a).take n ++ cs.drop (a + n) := fun a n => by rw [← List.drop_drop, List.take_append_drop]
    rw [hz, ← hdt, List.drop_zero, List.take_append_drop]
set_option maxRecDepth 100000 in
theorem lim_open {H : Type} {enc : TypeId × Value → H} {W : World} {fuel : Nat} {cs : Array Value} {x : DataW H × List MemPlace}
    (hx : DataW.trod enc Tryd.prog W 0 (fun _ => true) true fuel 23 cs.toList = some x) (hl : Light Tryd.prog 23 x.1) :
    ∃ a b c : Int, cs = #[.int .i64 a, .int .i64 b, .int .i64 c] ∧ (Lit.int .i64 a).wf = true ∧ (Lit.int .i64 b).wf = true ∧ (Lit.int .i64 c).wf = true := by
  have oi := Opens.int Tryd.underlying3 (by kernel_rfl)
  obtain ⟨⟨a, b, c⟩, hK, h1, h2, h3⟩ := (Opens.struct3 oi oi oi Tryd.underlying23 rfl rfl rfl (by kernel_rfl)).open_ hx hl
  obtain ⟨_, _, e, rfl, _, _, rfl, rfl, rfl⟩ := hK
  exact ⟨a, b, c, Array.toList_inj.1 e, h1, h2, h3⟩
end Go.Proofs.YtmmbpbgcobmifaaDoorH
end
section
namespace Go.Proofs.YtmmbpbgcobmifaaDoor.Pr
open Go.RowKit Go.Proofs.YtmmbpbgcobmifaaDoorH Go.Proofs.YtmmbpbgcobmifaaDoorW.PrintWords Go.Proofs.YtmmbpbgcobmifaaDoorW.PrintLast Go.Proofs.YtmmbpbgcobmifaaDoorW.PrintMore
attribute [local go_sem] max2_int min2_int max_two min_two max_three min_three max_four min_four   -- for this text's walks alone
set_option linter.unusedVariables false
set_option linter.unusedSimpArgs false
def catchpitref05_Put.f (a0_0 : ByteArray) (a0_1 : ByteArray) : Option (ByteArray) := if (a0_1.size : Int) = 0 then (if a0_0.size + 1 ≤ 9223372036854775807 then (some (a0_0 ++ (⟨#[58]⟩ : ByteArray))) else (none)) else (if a0_0.size + 2 ≤ 9223372036854775807 then (if (a0_0 ++ (⟨#[58, 32]⟩ : ByteArray)).size + a0_1.size ≤ 9223372036854775807 then (some ((a0_0 ++ (⟨#[58, 32]⟩ : ByteArray)) ++ a0_1)) else (none)) else (none))
end Go.Proofs.YtmmbpbgcobmifaaDoor.Pr
end
section
namespace Go.Proofs.YtmmbpbgcobmifaaDoor.Pr
end Go.Proofs.YtmmbpbgcobmifaaDoor.Pr
namespace Go.Proofs.YtmmbpbgcobmifaaDoorH
set_option linter.unusedVariables false
set_option linter.unusedSimpArgs false
open Go Go.RowKit Go.Proofs.YtmmbpbgcobmifaaDoorW.PrintWords Go.Proofs.YtmmbpbgcobmifaaDoorW.PrintLast Go.Proofs.YtmmbpbgcobmifaaDoorW.PrintMore Go.Proofs.YtmmbpbgcobmifaaDoor.Pr
abbrev KB8 : Kd (List Int) := Kd.slice 5 (Kd.int .u8)
theorem at_piece8 {w : World} {A : Option Addr} {n : Nat} {ls : List (List Int)} (h : Kd.C KB8 w A n ls) (k : Nat) (h1 : k < n) :
    ∃ (ad : Addr) (A2 : Option Addr) (c2 : Nat), A = some ad ∧ w.cell? (ad.add k) = some (.slice A2 (ls.getD k []).length c2) ∧ (ls.getD k []).length ≤ c2 ∧ Kd.C (Kd.int .u8) w A2 (ls.getD k []).length (ls.getD k []) := by
  obtain ⟨ad, cs, eA, _, hK, hc⟩ := Kd.C_get h [] (k : Int) (by omega) (by omega)
  rw [Int.toNat_natCast] at hK hc
  obtain ⟨A2, c2, hcs, hle, hC⟩ := hK
  refine ⟨ad, A2, c2, eA, ?_, hle, hC⟩
  have := hc 0 (.slice A2 (ls.getD k []).length c2) (by rw [hcs]; rfl)
  rwa [show k * (KB8).sz + 0 = k by show k * 1 + 0 = k; omega] at this
end Go.Proofs.YtmmbpbgcobmifaaDoorH
end
section
namespace Go.Proofs.YtmmbpbgcobmifaaDoor.Pr
end Go.Proofs.YtmmbpbgcobmifaaDoor.Pr
namespace Go.Proofs.YtmmbpbgcobmifaaDoorH
set_option linter.unusedVariables false
set_option linter.unusedSimpArgs false
open Go Go.RowKit Go.Proofs.YtmmbpbgcobmifaaDoorW.PrintWords Go.Proofs.YtmmbpbgcobmifaaDoorW.PrintLast Go.Proofs.YtmmbpbgcobmifaaDoorW.PrintMore Go.Proofs.YtmmbpbgcobmifaaDoor.Pr Go.Proofs.YtmmbpbgcobmifaaDoorM
def totP (l : List (List Int)) : Nat := (l.map fun p => p.length + 1).sum
theorem totP_take (l : List (List Int)) (k : Nat) (h : k < l.length) : totP (l.take (k + 1)) = totP (l.take k) + ((l.getD k []).length + 1) := by
  unfold totP
  rw [List.take_succ_eq_append_getElem h, List.map_append, List.sum_append, List.getD_eq_getElem?_getD, List.getElem?_eq_getElem h]
  simp
theorem flat_take (l : List (List Int)) (k : Nat) (h : k < l.length) : (l.take (k + 1)).flatten = (l.take k).flatten ++ l.getD k [] := by
  rw [List.take_succ_eq_append_getElem h, List.flatten_append, List.getD_eq_getElem?_getD, List.getElem?_eq_getElem h]
  simp
theorem flat_le : ∀ (l : List (List Int)), l.flatten.length ≤ totP l
  | [] => Nat.le_refl _
  | p :: l => by
    have := flat_le l
    unfold totP at *
    simp only [List.flatten_cons, List.length_append, List.map_cons, List.sum_cons]
    omega
theorem totP_le : ∀ (l : List (List Int)) (k : Nat), totP (l.take k) ≤ totP l
  | [], k => by simp
  | p :: l, 0 => by unfold totP; simp
  | p :: l, k + 1 => by
    have := totP_le l k
    unfold totP at *
    simp only [List.take_succ_cons, List.map_cons, List.sum_cons]
    omega
abbrev gotC (X : MSt Fld) (B0 B1 : Option Addr) (j0 j1 at_ : Nat) (er : Int) : Array Value := #[.int .i64 (X.place : Int), .int .u64 (X.n : Int), .int .i64 (X.count : Int), .int .i64 (X.lines : Int), .int .i64 (X.size : Int), .string (strOfNums X.text), .slice B0 X.data.length j0, .slice B1 X.fields.length j1, .int .i64 (at_ : Int), .int .i64 er]
theorem noRowG (X : MSt Fld) (B0 B1 : Option Addr) (j0 j1 at_ : Nat) (er : Int) : NoRow (gotC X B0 B1 j0 j1 at_ er) := noRow10 _ _ _ _ _ _ _ _ _ _ _ _ _ _
structure RoundP (w9 W : World) (B b bx e0 e1 e2 : Nat) (T : List Int) (Y : MSt Fld) (a : Nat) (er : Int) (co : Nat) (ov lv fv : Value) (B0 B1 : Option Addr) (j0 j1 : Nat) : Prop where
  at_ : AtD W B b e0 e1 e2 Y co lv fv a Y.data.length (errD er)
  m : Moves w9 W (fun k => k = b ∨ k = bx) (fun k => Own3 b lv fv k ∨ k = bx)
  bl : Below B w9 W
  row : RowD W w9.heap.size ov (T.take a)
  dis : ∀ x, ov.ownBlock = some x → ¬ Own3 b lv fv x
  x : W.heap[bx]? = some (.cells (gotC Y B0 B1 j0 j1 a er) 41 (0, 0))
  run : mrun (envM e0 e1 e2) minit T 0 = (Y, a, er)
  ok : er = 4 → co = Y.count ∧ Y.place ≠ 11 ∧ InvN Y a ∧ a = T.length
  aT : a ≤ T.length
  dl : Y.data.length ≤ a
  j0 : Y.data.length ≤ j0
  j1 : Y.fields.length ≤ j1
  rf : er ≠ 4 → Kd.C k53 W B1 Y.fields.length Y.fields ∧ (0 < Y.fields.length → ∀ ad, B1 = some ad → ¬ Own3 b lv fv ad.block ∧ ov.ownBlock ≠ some ad.block ∧ ad.block ≠ bx)
theorem AtD.not_got {W : World} {B b e0 e1 e2 : Nat} {X : MSt Fld} {co : Nat} {lv fv : Value} {tk gv : Nat} {er : Int} (h : AtD W B b e0 e1 e2 X co lv fv tk gv er) {bx : Nat} {cs : Array Value} (hx : W.heap[bx]? = some (.cells cs 41 (0, 0))) : ¬ Own3 b lv fv bx := fun hs => by
  rcases hs with rfl | hs | hs
  · have := hx.symm.trans h.i
    cases this
  · obtain ⟨_, cs', hc⟩ := h.l.at bx hs
    have := hx.symm.trans hc
    cases this
  · obtain ⟨_, cs', hc⟩ := h.f.at bx hs
    have := hx.symm.trans hc
    cases this
theorem RowD.not_got {W : World} {base : Nat} {v : Value} {l : List Int} (h : RowD W base v l) {bx : Nat} {cs : Array Value} (hx : W.heap[bx]? = some (.cells cs 41 (0, 0))) : v.ownBlock ≠ some bx := fun hs => by
  obtain ⟨_, cs', hc⟩ := h.at bx hs
  have := hx.symm.trans hc
  cases this
theorem take_app9 (T p : List Int) (n : Nat) : (T ++ p).take (T.length + n) = T ++ p.take n := by
  rw [List.take_append, List.take_of_length_le (by omega)]
  congr 2
  omega
theorem moves_grown {W W1 : World} {v : Value} (h : W.grownBy W1 v.ownBlock) : Moves W W1 (fun k => v.ownBlock = some k) (fun k => v.ownBlock = some k) :=
  ⟨h.size, fun k ob hk hn => (h.block k (blk_lt hk) (fun e => hn e.symm)).trans hk, fun _ h => .inl h⟩
theorem CF_lt {w : World} {ad : Addr} {l : List Fld} (h : Kd.C k53 w (some ad) l.length l) (hp : 0 < l.length) : ad.block < w.heap.size := by
  obtain ⟨ad', e', hc⟩ := h.2.2 hp
  cases e'
  obtain ⟨cs, _, hK, hcell⟩ := hc 0 l[0] (List.getElem?_eq_getElem hp)
  have c0 := hcell 0 (.string l[0].f0) (by rw [k53_open hK]; rfl)
  have := World.block_lt_of_cell? _ _ c0
  have hbk : ∀ z, (ad.add z).block = ad.block := fun z => by unfold Addr.add; split <;> rfl
  rwa [hbk] at this
theorem Moves.lift {w W : World} {S S' R : Nat → Prop} (h : Moves w W S S') : Moves w W (fun k => S k ∨ R k) (fun k => S' k ∨ R k) :=
  ⟨h.sz, fun k ob hk hn => h.bl k ob hk (fun hs => hn (.inl hs)), fun k hk => hk.elim (fun hs => (h.own k hs).imp_left .inl) (fun hr => .inl (.inr hr))⟩
theorem moves_put {w6 w10 W : World} {bx : Nat} {S : Nat → Prop} (hb : Below w6.heap.size w6 w10) (hf : ∀ k, k ≠ bx → W.heap[k]? = w10.heap[k]?) (hs : w10.heap.size ≤ W.heap.size) (hS : S bx) : Moves w6 W S S :=
  ⟨Nat.le_trans hb.size hs, fun k ob hk hn => (hf k (fun e => hn (e ▸ hS))).trans (blk_below hk hb), fun k hk => .inl hk⟩
set_option maxHeartbeats 1600000 in
set_option maxRecDepth 100000 in
theorem left9_calls (X : MSt Fld) (B0 B1 : Option Addr) (n0 n1 j0 j1 : Nat) (w : World) :
    Calls Tryd.prog 26 #[stM X (.slice B0 n0 j0) (.slice B1 n1 j1)] w fun e w' => e = .returned (.int .u64 (if X.place = 3 then (X.n : Int) else 0)) ∧ Below w.heap.size w w' := by
  by_cases hp : X.place = 3
  · rw [if_pos hp]
    have hp' : ((X.place : Int) != 3) = false := by rw [bne_eq_false_iff_eq]; omega
    clear hp
    go_enter Tryd.func26, Tryd.ntmps26
    go_wp2
    go_ret
    exact ⟨rfl, below_alloc (Below.refl _ _) _⟩
  · rw [if_neg hp]
    have hp' : ((X.place : Int) != 3) = true := by rw [bne_iff_ne]; omega
    clear hp
    go_enter Tryd.func26, Tryd.ntmps26
    go_wp2
    go_ret
    exact ⟨rfl, below_alloc (Below.refl _ _) _⟩
end Go.Proofs.YtmmbpbgcobmifaaDoorH
end
