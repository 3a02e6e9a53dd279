import Derived.Test.YtmmbpbgcobmifaaDoorZBodyScansP9
import Derived.Test.YtmmbpbgcobmifaaDoorZBodyScansP7
import Derived.Test.YtmmbpbgcobmifaaDoorZBodyScansP8
import Derived.Test.YtmmbpbgcobmifaaDoorZBodyScansP1
import Derived.Lib.ConvBytes
import Derived.Lib.SlBytesConst
import Derived.Laws.BytesArg
import Derived.Deep.RegionHeld3
import Derived.Test.YtmmbpbgcobmifaaDoorRows
import Derived.LaidSub
import Derived.MakeChecks
import Derived.ProofKit
import Derived.OpenShut
import Derived.LaidMore
import Derived.Deep.Slices
import Derived.SizedLaws
import Derived.HandedShaped
import Derived.Handed
namespace Go.Proofs.YtmmbpbgcobmifaaDoorW.PrintWords
end Go.Proofs.YtmmbpbgcobmifaaDoorW.PrintWords
namespace Go.Proofs.YtmmbpbgcobmifaaDoorW.PrintLast
end Go.Proofs.YtmmbpbgcobmifaaDoorW.PrintLast
namespace Go.Proofs.YtmmbpbgcobmifaaDoorW.PrintMore
end Go.Proofs.YtmmbpbgcobmifaaDoorW.PrintMore
namespace Go.Proofs.YtmmbpbgcobmifaaDoor.Pr
end Go.Proofs.YtmmbpbgcobmifaaDoor.Pr
namespace Go.Proofs.YtmmbpbgcobmifaaDoorM
end Go.Proofs.YtmmbpbgcobmifaaDoorM
namespace Go.Proofs.YtmmbpbgcobmifaaDoorH
end Go.Proofs.YtmmbpbgcobmifaaDoorH
namespace Go.Proofs.YtmmbpbgcobmifaaDoor.Pd
end Go.Proofs.YtmmbpbgcobmifaaDoor.Pd
section
namespace Go.Proofs.YtmmbpbgcobmifaaDoor.Pr
end Go.Proofs.YtmmbpbgcobmifaaDoor.Pr
namespace Go.Proofs.YtmmbpbgcobmifaaDoorH
set_option linter.unusedVariables false
set_option linter.unusedSimpArgs false
open Go Go.RowKit Go.Proofs.YtmmbpbgcobmifaaDoorW.PrintWords Go.Proofs.YtmmbpbgcobmifaaDoorW.PrintLast Go.Proofs.YtmmbpbgcobmifaaDoorW.PrintMore Go.Proofs.YtmmbpbgcobmifaaDoor.Pr Go.Proofs.YtmmbpbgcobmifaaDoorM
set_option maxHeartbeats 1600000 in
set_option maxRecDepth 100000 in
theorem bytesEq_calls (A : Option Addr) (c : Nat) (l : List Int) (A' : Option Addr) (c' : Nat) (l' : List Int) (w : World) (hr : Kd.C (Kd.int .u8) w A l.length l) (hr' : Kd.C (Kd.int .u8) w A' l'.length l') :
    Calls Tryd.prog 51 #[.slice A l.length c, .slice A' l'.length c'] w fun e w' => e = .returned (.bool ((strOfNums l).toList == (strOfNums l').toList)) ∧ w' = w := by
  have d1 : (convert 24 9 (.slice A l.length c)).run Tryd.prog w = .ok (.string (strOfNums l)) w := Kd.C_string Tryd.underlying24 Tryd.underlying5 Tryd.underlying9 hr
  have d2 : (convert 24 9 (.slice A' l'.length c')).run Tryd.prog w = .ok (.string (strOfNums l')) w := Kd.C_string Tryd.underlying24 Tryd.underlying5 Tryd.underlying9 hr'
  go_enter Tryd.func51, Tryd.ntmps51
  go_wp2
  go_ret
  exact ⟨rfl, rfl⟩
theorem blk2 (w : World) (a : Obj) (cs : Array Value) (t : TypeId) : ((w.alloc a).alloc (.cells cs t)).heap[w.heap.size + 1]? = some (.cells cs t (0, 0)) := by
  have := World.alloc_heap_new (w.alloc a) (.cells cs t)
  rwa [World.size_alloc] at this
abbrev ofV (B0 B1 : Option Addr) (n0 n1 j0 j1 at_ : Nat) (er : Int) : Value := if er = 0 then .agg #[.slice B0 n0 j0, .slice B1 n1 j1, .int .i64 (at_ : Int)] else .agg #[.slice none 0 0, .slice none 0 0, .int .i64 0]
set_option maxHeartbeats 1600000 in
set_option maxRecDepth 100000 in
theorem of8_calls (X : MSt Fld) (B0 B1 : Option Addr) (n0 n1 j0 j1 at_ : Nat) (er : Int) (w : World) :
    Calls Tryd.prog 37 #[gotV X (.slice B0 n0 j0) (.slice B1 n1 j1) at_ er] w fun e w' => e = .returned (ofV B0 B1 n0 n1 j0 j1 at_ er) ∧ Below w.heap.size w w' := by
  by_cases h : er = 0
  · subst h
    rw [ofV, if_pos rfl]
    go_enter Tryd.func37, Tryd.ntmps37
    go_wp2
    refine bodyPost_ret (results_cell_row rfl _ _ (w.heap.size + 1) 57 _ (0, 0) _ rfl (blk2 _ _ _ _) Tryd.underlying57 rfl (by kernel_rfl)) rfl ⟨rfl, below_alloc (below_alloc (Below.refl _ _) _) _⟩
  · have hne : (er != 0) = true := by rw [bne_iff_ne]; exact h
    rw [ofV, if_neg h]
    go_enter Tryd.func37, Tryd.ntmps37
    go_wp2
    refine bodyPost_ret (results_cell_row rfl _ _ (w.heap.size + 1) 57 _ (0, 0) _ rfl (blk2 _ _ _ _) Tryd.underlying57 rfl (by kernel_rfl)) rfl ⟨rfl, below_alloc (below_alloc (Below.refl _ _) _) _⟩
set_option maxHeartbeats 4000000 in
set_option maxRecDepth 100000 in
theorem bodySame_calls (k : Nat) (A0 : Option Addr) (c0 : Nat) (D : List Int) (A1 : Option Addr) (c1 : Nat) (F : List Fld) (z : Int) (B0 : Option Addr) (d0 : Nat) (D' : List Int) (B1 : Option Addr) (d1 : Nat) (F' : List Fld) (z' : Int) (b : Bool) (w : World) (h0 : Kd.C (Kd.int .u8) w A0 D.length D) (h1 : Kd.C k53 w A1 F.length F) (hc1 : F.length ≤ c1) (g0 : Kd.C (Kd.int .u8) w B0 D'.length D') (g1 : Kd.C k53 w B1 F'.length F') (hd1 : F'.length ≤ d1) (hG : TabOk w) (hf : api_Field_52.f k F F' = some b) :
    Calls Tryd.prog 38 #[.agg #[.slice A0 D.length c0, .slice A1 F.length c1, .int .i64 z], .agg #[.slice B0 D'.length d0, .slice B1 F'.length d1, .int .i64 z']] w fun e w' => e = .returned (.bool (((strOfNums D).toList == (strOfNums D').toList) && b && (z == z'))) ∧ Below w.heap.size w w' := by
  have HE := Aside0.mk (fun (W : World) (hb : Below w.heap.size w W) => bytesEq_calls A0 c0 D B0 d0 D' W (Kd.C_below h0 hb) (Kd.C_below g0 hb))
  have HF := Aside0.mk (fun (W : World) (hb : Below w.heap.size w W) => api_Field_52.calls k A1 c1 F B1 d1 F' b W (Kd.C_below h1 hb) hc1 (Kd.C_below g1 hb) hd1 (hG.below hb) hf)
  generalize ((strOfNums D).toList == (strOfNums D').toList) = q at *
  clear h0 h1 hc1 g0 g1 hd1 hG hf
  obtain ⟨w1, hw1⟩ : ∃ w1, (w.alloc (.cells #[.slice A0 D.length c0, .slice A1 F.length c1, .int .i64 z] 57)).alloc (.cells #[.slice B0 D'.length d0, .slice B1 F'.length d1, .int .i64 z'] 57) = w1 := ⟨_, rfl⟩
  have HB1 := Aside0.mk (show Below w.heap.size w w1 by rw [← hw1]; exact below_alloc (below_alloc (Below.refl _ _) _) _)
  have ha : w1.heap[w.heap.size]? = some (.cells #[.slice A0 D.length c0, .slice A1 F.length c1, .int .i64 z] 57 (0, 0)) := by rw [← hw1]; exact alloc_keep _ (World.alloc_heap_new w _)
  have hb : w1.heap[w.heap.size + 1]? = some (.cells #[.slice B0 D'.length d0, .slice B1 F'.length d1, .int .i64 z'] 57 (0, 0)) := by rw [← hw1]; exact blk2 _ _ _ _
  have x0 : w1.cell? ⟨w.heap.size, 0, none⟩ = some (.slice A0 D.length c0) := (blk_cell ha 0).trans rfl
  have x1 : w1.cell? ⟨w.heap.size, 1, none⟩ = some (.slice A1 F.length c1) := (blk_cell ha 1).trans rfl
  have x2 : w1.cell? ⟨w.heap.size, 2, none⟩ = some (.int .i64 z) := (blk_cell ha 2).trans rfl
  have y0 : w1.cell? ⟨w.heap.size + 1, 0, none⟩ = some (.slice B0 D'.length d0) := (blk_cell hb 0).trans rfl
  have y1 : w1.cell? ⟨w.heap.size + 1, 1, none⟩ = some (.slice B1 F'.length d1) := (blk_cell hb 1).trans rfl
  have y2 : w1.cell? ⟨w.heap.size + 1, 2, none⟩ = some (.int .i64 z') := (blk_cell hb 2).trans rfl
  have HA := Aside0.mk ha
  have HBb := Aside0.mk hb
  have HW1 := Aside0.mk hw1
  clear ha hb hw1
  go_enter Tryd.func38, Tryd.ntmps38
  go_upto_region 1 with (fail)
  rw [HW1.out]
  go_wp2_with fail
  refine (HE.out w1 HB1.out).mono ?_
  rintro e w2 ⟨rfl, rfl⟩
  cases q
  · go_wp2
    go_ret
    exact ⟨rfl, HB1.out⟩
  · go_wp2_with fail
    refine (HF.out w2 HB1.out).mono ?_
    rintro e w3 ⟨rfl, hd⟩
    have B3 := Aside0.mk (HB1.out.trans (hd.below.mono HB1.out.size))
    have x2' : w3.cell? ⟨w.heap.size, 2, none⟩ = some (.int .i64 z) := (blk_cell (blk_below HA.out hd.below) 2).trans rfl
    have y2' : w3.cell? ⟨w.heap.size + 1, 2, none⟩ = some (.int .i64 z') := (blk_cell (blk_below HBb.out hd.below) 2).trans rfl
    clear hd x0 x1 x2 y0 y1 y2
    cases b
    · go_wp2
      go_ret
      exact ⟨rfl, B3.out⟩
    · go_wp2
      go_ret
      exact ⟨rfl, B3.out⟩
theorem strEq_refl (l : List Int) : ((strOfNums l).toList == (strOfNums l).toList) = true := by simp
theorem strEq_nil (l : List Int) : ((strOfNums l).toList == (strOfNums ([] : List Int)).toList) = decide (l = []) := by
  rw [beq_toList]
  cases l with
  | nil => simp
  | cons x l =>
    rw [decide_eq_false (show ¬ (x :: l) = [] by simp), decide_eq_false]
    intro e
    have h1 : (strOfNums (x :: l)).size = (strOfNums ([] : List Int)).size := by rw [e]
    rw [Go.strOfNums_size, Go.strOfNums_size] at h1
    simp at h1
theorem eqF_l0 (a : List Fld) (hc : a.length ≤ 1000000) : ∀ d i k : Nat, i ≤ a.length → a.length - i = d → d < k → api_Field_52.l0 k a a (a.length : Int) (i : Int) = some true := by
  intro d
  induction d with
  | zero =>
    intro i k h1 h2 h3
    obtain ⟨k, rfl⟩ : ∃ m, k = m + 1 := ⟨k - 1, by omega⟩
    rw [api_Field_52.l0, if_neg (by omega)]
  | succ d ih =>
    intro i k h1 h2 h3
    obtain ⟨k, rfl⟩ : ∃ m, k = m + 1 := ⟨k - 1, by omega⟩
    rw [api_Field_52.l0, if_pos (by omega), if_pos (by omega), if_pos (by omega), if_pos (by omega), if_neg (by simp), show wrap64 ((i : Int) + 1) = ((i + 1 : Nat) : Int) by unfold wrap64; omega]
    exact ih (i + 1) k (by omega) (by omega) (by omega)
theorem eqF_eq (a : List Fld) (hc : a.length ≤ 1000000) (k : Nat) (hk : a.length < k) : api_Field_52.f k a a = some true := by
  rw [api_Field_52.f, if_pos rfl]
  exact eqF_l0 a hc a.length 0 k (Nat.zero_le _) (by omega) hk
theorem eqF_nil (a : List Fld) (k : Nat) : api_Field_52.f (k + 1) a [] = some (decide (a = [])) := by
  cases a with
  | nil =>
    rw [eqF_eq [] (by simp) (k + 1) (by simp)]
    rfl
  | cons x a =>
    rw [api_Field_52.f, if_neg (by simp; omega)]
    rfl
theorem sameB_nil (D : List Int) (F : List Fld) (z : Int) (hD : D.length ≤ 1000000) : catchpitlaw08_same.f 1000001 D F z [] [] 0 = some (decide (D = []) && decide (F = []) && (z == 0)) := by
  unfold catchpitlaw08_same.f
  rw [Same8_eq D [] hD _ (by omega)]
  simp only [Option.bind_some]
  by_cases h : D = []
  · rw [if_pos (by simpa using h), FieldsM_nil F 1000000]
    simp only [Option.bind_some]
    by_cases h2 : F = []
    · rw [if_pos (by simpa using h2)]
      simp [h, h2]
    · rw [if_neg (by simpa using h2)]
      simp [h2]
  · rw [if_neg (by simpa using h)]
    simp [h]
end Go.Proofs.YtmmbpbgcobmifaaDoorH
end
section
namespace Go.Proofs.YtmmbpbgcobmifaaDoor.Pr
end Go.Proofs.YtmmbpbgcobmifaaDoor.Pr
namespace Go.Proofs.YtmmbpbgcobmifaaDoorH
open Go Go.RowKit Go.Proofs.YtmmbpbgcobmifaaDoorW.PrintWords Go.Proofs.YtmmbpbgcobmifaaDoorW.PrintLast Go.Proofs.YtmmbpbgcobmifaaDoorW.PrintMore Go.Proofs.YtmmbpbgcobmifaaDoor.Pr
theorem C_block {W : World} {b : Nat} {cs : Array Value} {t : TypeId} {fr : Nat × Nat} (h : W.heap[b]? = some (.cells cs t fr)) (l : List Int) (hl : l.length ≤ 9223372036854775807) (hc : ∀ (j : Nat) (x : Int), l[j]? = some x → cs.toList[j]? = some (Value.int .u8 x)) : Kd.C (Kd.int .u8) W (some ⟨b, 0, none⟩) l.length l := by
  refine ⟨rfl, hl, fun _ => ⟨_, rfl, fun j y hy => ⟨[.int .u8 y], rfl, rfl, fun i u hu => ?_⟩⟩⟩
  have : i = 0 ∧ .int .u8 y = u := by
    cases i with
    | zero => exact ⟨rfl, by simpa using hu⟩
    | succ i => simp at hu
  obtain ⟨rfl, rfl⟩ := this
  show W.cell? ((⟨b, 0, none⟩ : Addr).add (j * 1 + 0)) = _
  rw [show j * 1 + 0 = j by omega]
  exact World.news_of_block h j _ (hc j y hy)
def eg8 : List Int := [51, 13, 10, 97, 98, 99, 13, 10, 48, 13, 10, 13, 10]
theorem eg8_scan : body_Scan.f eg8 10 10 100 = some ([97, 98, 99], [], 13, 13, 0) := by kernel_rfl
theorem eg8_bad : body_Scan.f [51, 120] 10 10 100 = some ([], [], 0, 1, 2) := by kernel_rfl
theorem conv_const (W : World) (cs : Array Value) (n c : Nat) : (convert 24 24 (.slice (some ⟨W.heap.size, 0, none⟩) n c)).run Tryd.prog (W.alloc (.cells cs 5)) = .ok (.slice (some ⟨W.heap.size, 0, none⟩) n c) (W.alloc (.cells cs 5 (cs.size, cs.size + 1))) :=
  Lib.run_convert_bytes_const (P := Tryd.prog) W 24 5 cs n c Tryd.underlying24 Tryd.underlying5
set_option maxHeartbeats 1600000 in
set_option maxRecDepth 100000 in
theorem wakes8_calls (w : World) (hG : TabOk w) :
    Calls Tryd.prog 27 #[] w fun e w' => e = .returned (.bool true) ∧ Below w.heap.size w w' := by
  have HT := Aside0.mk hG
  clear hG
  have hc1 := conv_const (w.alloc (.cells #[.int .i64 10, .int .i64 10, .int .i64 100] 23)) #[.int .u8 51, .int .u8 13, .int .u8 10, .int .u8 97, .int .u8 98, .int .u8 99, .int .u8 13, .int .u8 10, .int .u8 48, .int .u8 13, .int .u8 10, .int .u8 13, .int .u8 10] 13 13
  rw [World.size_alloc] at hc1
  go_enter Tryd.func27, Tryd.ntmps27
  go_wp2_with fail
  have hL := alloc_keep (.cells #[.int .u8 51, .int .u8 13, .int .u8 10, .int .u8 97, .int .u8 98, .int .u8 99, .int .u8 13, .int .u8 10, .int .u8 48, .int .u8 13, .int .u8 10, .int .u8 13, .int .u8 10] 5 (13, 14)) (World.alloc_heap_new w (.cells #[.int .i64 10, .int .i64 10, .int .i64 100] 23))
  have hR := World.alloc_heap_new (w.alloc (.cells #[.int .i64 10, .int .i64 10, .int .i64 100] 23)) (.cells #[.int .u8 51, .int .u8 13, .int .u8 10, .int .u8 97, .int .u8 98, .int .u8 99, .int .u8 13, .int .u8 10, .int .u8 48, .int .u8 13, .int .u8 10, .int .u8 13, .int .u8 10] 5 (13, 14))
  rw [World.size_alloc] at hR
  have hB1 := below_alloc (below_alloc (Below.refl w.heap.size w) (.cells #[.int .i64 10, .int .i64 10, .int .i64 100] 23)) (.cells #[.int .u8 51, .int .u8 13, .int .u8 10, .int .u8 97, .int .u8 98, .int .u8 99, .int .u8 13, .int .u8 10, .int .u8 48, .int .u8 13, .int .u8 10, .int .u8 13, .int .u8 10] 5 (13, 14))
  clear hc1
  generalize (w.alloc (.cells #[.int .i64 10, .int .i64 10, .int .i64 100] 23)).alloc (.cells #[.int .u8 51, .int .u8 13, .int .u8 10, .int .u8 97, .int .u8 98, .int .u8 99, .int .u8 13, .int .u8 10, .int .u8 48, .int .u8 13, .int .u8 10, .int .u8 13, .int .u8 10] 5 (13, 14)) = w1 at *
  have hC1 : Kd.C (Kd.int .u8) w1 (some ⟨w.heap.size + 1, 0, none⟩) eg8.length eg8 := C_block hR eg8 (by decide) (by
    intro j x hj
    match j, hj with
    | 0, hj => cases hj; rfl
    | 1, hj => cases hj; rfl
    | 2, hj => cases hj; rfl
    | 3, hj => cases hj; rfl
    | 4, hj => cases hj; rfl
    | 5, hj => cases hj; rfl
    | 6, hj => cases hj; rfl
    | 7, hj => cases hj; rfl
    | 8, hj => cases hj; rfl
    | 9, hj => cases hj; rfl
    | 10, hj => cases hj; rfl
    | 11, hj => cases hj; rfl
    | 12, hj => cases hj; rfl
    | (j + 13), hj => simp [eg8] at hj)
  refine (body_Scan.calls (some ⟨w.heap.size + 1, 0, none⟩) 13 eg8 10 10 100 _ _ _ _ _ w1 hC1 (by decide) (HT.out.below hB1) eg8_scan).mono ?_
  rintro e w2 ⟨v0, v1, rfl, hv0, hv1, hb2⟩
  obtain ⟨a0, k0, rfl⟩ := Kd.R_slice hv0
  obtain ⟨a1, k1, rfl⟩ := Kd.R_slice hv1
  have hL2 : w2.heap[w.heap.size]? = some (.cells #[.int .i64 10, .int .i64 10, .int .i64 100] 23 (0, 0)) := (hb2.block _ (blk_lt hL)).trans hL
  have m0 : w2.cell? ⟨w.heap.size, 0, none⟩ = some (.int .i64 10) := (blk_cell hL2 0).trans rfl
  have m1 : w2.cell? ⟨w.heap.size, 1, none⟩ = some (.int .i64 10) := (blk_cell hL2 1).trans rfl
  have m2 : w2.cell? ⟨w.heap.size, 2, none⟩ = some (.int .i64 100) := (blk_cell hL2 2).trans rfl
  have HB2 := Aside0.mk (hB1.trans (hb2.mono hB1.size))
  have HV0 := Aside0.mk hv0
  have hlt2 := blk_lt hL2
  have hc2 := conv_const (w2.alloc (.cells #[.slice a0 3 k0, .slice a1 0 k1, .int .i64 13] 57)) #[.int .u8 51, .int .u8 120] 2 2
  rw [World.size_alloc] at hc2
  clear hL hR hB1 hC1 hv0 hv1 hb2 hL2
  simp only [List.length_cons, List.length_nil, Nat.reduceAdd]
  go_wp2_with fail
  have hD2 := alloc_keep (.cells #[.int .u8 51, .int .u8 120] 5 (2, 3)) (World.alloc_heap_new w2 (.cells #[.slice a0 3 k0, .slice a1 0 k1, .int .i64 13] 57))
  have hR := World.alloc_heap_new (w2.alloc (.cells #[.slice a0 3 k0, .slice a1 0 k1, .int .i64 13] 57)) (.cells #[.int .u8 51, .int .u8 120] 5 (2, 3))
  rw [World.size_alloc] at hR
  have hB2 := below_alloc (below_alloc (Below.refl w2.heap.size w2) (.cells #[.slice a0 3 k0, .slice a1 0 k1, .int .i64 13] 57)) (.cells #[.int .u8 51, .int .u8 120] 5 (2, 3))
  clear hc2
  generalize (w2.alloc (.cells #[.slice a0 3 k0, .slice a1 0 k1, .int .i64 13] 57)).alloc (.cells #[.int .u8 51, .int .u8 120] 5 (2, 3)) = w3 at *
  have hC1 : Kd.C (Kd.int .u8) w3 (some ⟨w2.heap.size + 1, 0, none⟩) ([51, 120] : List Int).length [51, 120] := C_block hR [51, 120] (by decide) (by
    intro j x hj
    match j, hj with
    | 0, hj => cases hj; rfl
    | 1, hj => cases hj; rfl
    | (j + 2), hj => simp at hj)
  have HB3 := Aside0.mk (HB2.out.trans (hB2.mono HB2.out.size))
  refine (body_Scan.calls (some ⟨w2.heap.size + 1, 0, none⟩) 2 [51, 120] 10 10 100 _ _ _ _ _ w3 hC1 (by decide) (HT.out.below HB3.out) eg8_bad).mono ?_
  rintro e w4 ⟨v0, v1, rfl, hv0, hv1, hb4⟩
  obtain ⟨b0, l0, rfl⟩ := Kd.R_slice hv0
  obtain ⟨b1, l1, rfl⟩ := Kd.R_slice hv1
  have hD4 : w4.heap[w2.heap.size]? = some (.cells #[.slice a0 3 k0, .slice a1 0 k1, .int .i64 13] 57 (0, 0)) := (hb4.block _ (blk_lt hD2)).trans hD2
  have n0 : w4.cell? ⟨w2.heap.size, 0, none⟩ = some (.slice a0 3 k0) := (blk_cell hD4 0).trans rfl
  have n2 : w4.cell? ⟨w2.heap.size, 2, none⟩ = some (.int .i64 13) := (blk_cell hD4 2).trans rfl
  have hlt4 : w2.heap.size < w4.heap.size := blk_lt hD4
  have hne4 : ¬ w2.heap.size = w4.heap.size := by omega
  have hne5 : ¬ w4.heap.size = w2.heap.size := by omega
  have HB4 := Aside0.mk (HB3.out.trans (hb4.mono HB3.out.size))
  obtain ⟨A0, c0, q0, _, hC0⟩ := Kd.R_reads (Kd.R_below (Kd.R_below HV0.out hB2) hb4)
  cases q0
  have hCA : Kd.C (Kd.int .u8) (w4.alloc (.cells #[.slice b0 0 l0, .slice b1 0 l1, .int .i64 0] 57)) a0 ([97, 98, 99] : List Int).length [97, 98, 99] := Kd.C_below hC0 (below_alloc (Below.refl _ _) _)
  have hcv := Kd.C_string (P := Tryd.prog) (c := k0) Tryd.underlying24 Tryd.underlying5 Tryd.underlying9 hCA
  have hst : strOfNums [97, 98, 99] = ⟨#[97, 98, 99]⟩ := by decide
  rw [hst] at hcv
  have HB5 := Aside0.mk (below_alloc HB4.out (.cells #[.slice b0 0 l0, .slice b1 0 l1, .int .i64 0] 57))
  clear hD2 hR hB2 hC1 hv0 hv1 hb4 hD4 hC0 hCA m0 m1 m2 hst
  simp only [List.length_cons, List.length_nil, Nat.reduceAdd] at hcv ⊢
  go_wp2
  go_ret
  exact ⟨rfl, HB5.out⟩
def catchpitlaw08_wakes.f : Option Bool := some true
theorem catchpitlaw08_wakes.calls (r : Bool) (w : World) (hG : TabOk w) (h : catchpitlaw08_wakes.f = some r) :
    Calls Tryd.prog 27 #[] w fun e w' => e = .returned (.bool r) ∧ Below w.heap.size w w' := by
  cases h
  exact wakes8_calls w hG
end Go.Proofs.YtmmbpbgcobmifaaDoorH
end
section
namespace Go.Proofs.YtmmbpbgcobmifaaDoor.Pr
end Go.Proofs.YtmmbpbgcobmifaaDoor.Pr
namespace Go.Proofs.YtmmbpbgcobmifaaDoor.Pd
set_option linter.unusedVariables false
set_option linter.unusedSimpArgs false
open Go Go.RowKit Go.Proofs.YtmmbpbgcobmifaaDoorH Go.Proofs.YtmmbpbgcobmifaaDoor.Pr Go.Proofs.YtmmbpbgcobmifaaDoorW.PrintWords Go.Proofs.YtmmbpbgcobmifaaDoorW.PrintLast Go.Proofs.YtmmbpbgcobmifaaDoorW.PrintMore Go.Proofs.YtmmbpbgcobmifaaDoorM
def catchpitlaw08_BodyScans.f (s : List Int) (x0 x1 x2 : Int) : Option Bool := if byteB s = true then some true else none
theorem payRow {W : World} {b : Nat} {P : Nat → Prop} {A : Option Addr} {n c : Nat} {l : List Int} (h : Kd.R (Kd.int .u8) 5 W b P (.slice A n c) l) : l.length ≤ c ∧ Kd.C (Kd.int .u8) W A l.length l := by
  obtain ⟨_, _, q, hc, hC⟩ := Kd.R_reads h
  cases q
  exact ⟨hc, hC⟩
set_option maxHeartbeats 4000000 in
set_option maxRecDepth 100000 in
theorem scans_go (A : Option Addr) (c : Nat) (s : List Int) (e0 e1 e2 : Nat) (w : World) (hr : Kd.C (Kd.int .u8) w A s.length s) (hc : s.length ≤ c) (hG : TabOk w) (hs : ByteL s) (h8 : s.length ≤ 800) (h0 : e0 ≤ 65536) (h1 : e1 ≤ 65536) (h2 : e2 ≤ 65536) :
    Calls Tryd.prog 12 #[.slice A s.length c, .agg #[.int .i64 (e0 : Int), .int .i64 (e1 : Int), .int .i64 (e2 : Int)]] w fun e w' => e = .returned (.bool true) ∧ Below w.heap.size w w' := by
  have HW := Aside0.mk (fun W hg => catchpitlaw08_wakes.calls true W hg rfl)
  have HR := Aside0.mk (fun W hg => catchpitref08_Right.calls (e0 : Int) (e1 : Int) (e2 : Int) true W hg (by rw [Right8_eq]; unfold rightL; simp only [Option.some.injEq, Bool.and_eq_true, decide_eq_true_eq]; omega))
  have HBR := Aside0.mk (fun W hg => body_Right.calls (e0 : Int) (e1 : Int) (e2 : Int) true W hg (by unfold body_Right.f rightL; simp only [Option.some.injEq, Bool.and_eq_true, decide_eq_true_eq]; omega))
  have HK := Aside0.mk (fun (W : World) (h : Below w.heap.size w W) => (⟨Kd.C_below hr h, hG.below h⟩ : Kd.C (Kd.int .u8) W A s.length s ∧ TabOk W))
  have hs1 := scanF_eq e0 e1 e2 s hs (by omega) h0 h1 h2
  have hp1 := payF_eq e0 e1 e2 s hs (by omega) h0 h1 h2
  have hln := run_dataLen (E := envM e0 e1 e2) s 0 minit
  have HRS := Aside0.mk (fun W (h : Below w.heap.size w W) => scan8_calls A c s e0 e1 e2 W (HK.out W h).1 hc (HK.out W h).2 hs (by omega))
  unfold runB at hs1 hp1
  generalize hrun : mrun (envM e0 e1 e2) minit s 0 = run at *
  obtain ⟨X, at_, er⟩ := run
  have hX : X.data.length ≤ 800 ∧ X.fields.length ≤ 800 := by
    simp only [minit, List.length_nil] at hln
    omega
  have HX := Aside0.mk hX
  have HRUN := Aside0.mk hrun
  have HRUN := Aside0.mk hrun
  have HPF := Aside0.mk (fun W (h : Below w.heap.size w W) => body_Payload.calls A c s (e0 : Int) (e1 : Int) (e2 : Int) _ W (HK.out W h).1 hc (HK.out W h).2 hp1)
  generalize hT : toldB (X, at_, er) = T1 at hs1
  obtain ⟨D1, F1, z1, p1, r1⟩ := T1
  have HT := Aside0.mk hT
  have HS1 := Aside0.mk (fun W (h : Below w.heap.size w W) => body_Scan.calls A c s (e0 : Int) (e1 : Int) (e2 : Int) D1 F1 z1 p1 r1 W (HK.out W h).1 hc (HK.out W h).2 hs1)
  have h8' : ¬ (800 : Int) < (s.length : Int) := by omega
  have h82 : decide ((800 : Int) < (s.length : Int)) = false := decide_eq_false h8'
  clear hr hG hs hs1 hp1 hln hrun hX hT
  go_enter Tryd.func12, Tryd.ntmps12
  go_wp2_with fail
  obtain ⟨w1, hw1⟩ : ∃ w1, w.alloc (.cells #[.int .i64 (e0 : Int), .int .i64 (e1 : Int), .int .i64 (e2 : Int)] 23) = w1 := ⟨_, rfl⟩
  have hL1 : w1.heap[w.heap.size]? = some (.cells #[.int .i64 (e0 : Int), .int .i64 (e1 : Int), .int .i64 (e2 : Int)] 23 (0, 0)) := by
    rw [← hw1]; exact World.alloc_heap_new w _
  have HB1 := Aside0.mk (show Below w.heap.size w w1 by rw [← hw1]; exact below_alloc (Below.refl _ _) _)
  rw [hw1]
  have HL := Aside0.mk (fun (W : World) (h : Below w1.heap.size w1 W) => (show W.cell? ⟨w.heap.size, 0, none⟩ = some (.int .i64 (e0 : Int)) ∧ W.cell? ⟨w.heap.size, 1, none⟩ = some (.int .i64 (e1 : Int)) ∧ W.cell? ⟨w.heap.size, 2, none⟩ = some (.int .i64 (e2 : Int)) from
    ⟨(blk_cell ((h.block _ (blk_lt hL1)).trans hL1) 0).trans rfl, (blk_cell ((h.block _ (blk_lt hL1)).trans hL1) 1).trans rfl, (blk_cell ((h.block _ (blk_lt hL1)).trans hL1) 2).trans rfl⟩))
  have HT1 := Aside0.mk (fun (W : World) (h : Below w1.heap.size w1 W) => (HB1.out.trans (h.mono HB1.out.size) : Below w.heap.size w W))
  have hlt1 : w.heap.size < w1.heap.size := blk_lt hL1
  clear hL1 hw1
  refine (HW.out w1 (HK.out _ HB1.out).2).mono ?_
  rintro e w2 ⟨rfl, hb2⟩
  have B2 := Aside0.mk hb2
  obtain ⟨l0, l1, l2⟩ := HL.out w2 hb2
  clear hb2
  go_wp2_with fail
  refine (HS1.out w2 (HT1.out _ B2.out)).mono ?_
  rintro e w3 ⟨v0, v1, rfl, hv0, hv1, hb3⟩
  obtain ⟨y0, y1, rfl⟩ := Kd.R_slice hv0
  obtain ⟨z0, z1', rfl⟩ := Kd.R_slice hv1
  have B3 := Aside0.mk (B2.out.trans (hb3.mono B2.out.size))
  clear l0 l1 l2
  obtain ⟨l0, l1, l2⟩ := HL.out w3 B3.out
  clear hb3
  go_upto_region 6 with (fail)
  obtain ⟨w4, hw4⟩ : ∃ w4, w3.alloc (.cells #[.slice y0 D1.length y1, .slice z0 F1.length z1', .int .i64 z1] 57) = w4 := ⟨_, rfl⟩
  have B4 := Aside0.mk (show Below w1.heap.size w1 w4 by rw [← hw4]; exact below_alloc B3.out _)
  have HG4 := Aside0.mk (show w4.heap[w3.heap.size]? = some (.cells #[.slice y0 D1.length y1, .slice z0 F1.length z1', .int .i64 z1] 57 (0, 0)) by rw [← hw4]; exact World.alloc_heap_new w3 _)
  have HV0 := Aside0.mk (show Kd.R (Kd.int .u8) 5 w4 w2.heap.size (fun _ => True) (.slice y0 D1.length y1) D1 by rw [← hw4]; exact Kd.R_alloc hv0 _)
  have HV1 := Aside0.mk (show Kd.R k53 53 w4 w2.heap.size (fun _ => True) (.slice z0 F1.length z1') F1 by rw [← hw4]; exact Kd.R_alloc hv1 _)
  rw [hw4]
  clear hw4 hv0 hv1 l0 l1 l2
  obtain ⟨d0, d1, d2⟩ := HL.out w4.drew (below_drew B4.out)
  go_region_held3 (fun W => W.cell? ⟨w.heap.size, 0, none⟩ = some (Value.int .i64 (e0 : Int)) ∧ W.cell? ⟨w.heap.size, 1, none⟩ = some (Value.int .i64 (e1 : Int)) ∧ W.cell? ⟨w.heap.size, 2, none⟩ = some (Value.int .i64 (e2 : Int))) (first | exact ⟨d0, d1, d2⟩ | with_reducible exact yy | with_reducible exact xx)
    (first
      | (go_at_call 36; refine (HBR.out _ (HK.out _ (HT1.out _ (below_drew B4.out))).2).mono ?_; rintro e w5 ⟨rfl, hb5⟩; have B5 := Aside0.mk ((below_drew B4.out).trans (hb5.mono (below_drew B4.out).size)); have yy := HL.out _ B5.out; have C5 := Aside0.mk ((below_drew (Below.refl w4.heap.size w4)).trans (hb5.mono (Nat.le_refl _))); clear hb5)
      | (go_at_call 14; refine (HR.out _ (HK.out _ (HT1.out _ B5.out)).2).mono ?_; rintro e w6 ⟨rfl, hb6⟩; have B6 := Aside0.mk (B5.out.trans (hb6.mono B5.out.size)); have xx := HL.out _ B6.out; have C6 := Aside0.mk (C5.out.trans (hb6.mono C5.out.size)); clear hb6))
  clear yy d0 d1 d2
  obtain ⟨l0, l1, l2⟩ := HL.out w6 B6.out
  clear xx
  go_wp2_with fail
  refine (HR.out w6 (HK.out _ (HT1.out _ B6.out)).2).mono ?_
  rintro e w7 ⟨rfl, hb7⟩
  have B7 := Aside0.mk (B6.out.trans (hb7.mono B6.out.size))
  have C7 := Aside0.mk (C6.out.trans (hb7.mono C6.out.size))
  clear hb7 l0 l1 l2
  obtain ⟨l0, l1, l2⟩ := HL.out w7 B7.out
  go_wp2_with fail
  refine (HRS.out w7 (HT1.out _ B7.out)).mono ?_
  rintro e w8 ⟨X', at', er', B0, B1, j0, j1, rfl, hrun', hj0, hj1, hc0, hc1, hb8⟩
  obtain ⟨rfl, rfl, rfl⟩ : X = X' ∧ at_ = at' ∧ er = er' := by
    simp only [Prod.mk.injEq] at hrun'
    exact hrun'
  have B8 := Aside0.mk (B7.out.trans (hb8.mono B7.out.size))
  have HJ := Aside0.mk (And.intro hj0 hj1)
  have C8 := Aside0.mk (C7.out.trans (hb8.mono C7.out.size))
  have HX0 := Aside0.mk hc0
  have HX1 := Aside0.mk hc1
  clear hrun' hj0 hj1 hb8 l0 l1 l2 hc0 hc1
  go_upto_region 11 with (fail)
  obtain ⟨w9, hw9⟩ : ∃ w9, w8.alloc (.cells #[Value.int .i64 (X.place : Int), Value.int .u64 (X.n : Int), Value.int .i64 (X.count : Int), Value.int .i64 (X.lines : Int), Value.int .i64 (X.size : Int), Value.string (strOfNums X.text), Value.slice B0 X.data.length j0, Value.slice B1 X.fields.length j1, Value.int .i64 (at_ : Int), Value.int .i64 er] 41) = w9 := ⟨_, rfl⟩
  have B9 := Aside0.mk (show Below w1.heap.size w1 w9 by rw [← hw9]; exact below_alloc B8.out _)
  have C9 := Aside0.mk (show Below w4.heap.size w4 w9 by rw [← hw9]; exact below_alloc C8.out _)
  have HGT := Aside0.mk (show w9.heap[w8.heap.size]? = some (.cells #[Value.int .i64 (X.place : Int), Value.int .u64 (X.n : Int), Value.int .i64 (X.count : Int), Value.int .i64 (X.lines : Int), Value.int .i64 (X.size : Int), Value.string (strOfNums X.text), Value.slice B0 X.data.length j0, Value.slice B1 X.fields.length j1, Value.int .i64 (at_ : Int), Value.int .i64 er] 41 (0, 0)) by rw [← hw9]; exact World.alloc_heap_new w8 _)
  have HX09 := Aside0.mk (show Kd.C (Kd.int .u8) w9 B0 X.data.length X.data by rw [← hw9]; exact Kd.C_below HX0.out (below_alloc (Below.refl _ _) _))
  have HX19 := Aside0.mk (show Kd.C k53 w9 B1 X.fields.length X.fields by rw [← hw9]; exact Kd.C_below HX1.out (below_alloc (Below.refl _ _) _))
  rw [hw9]
  clear hw9
  have HV09 := Aside0.mk (show D1.length ≤ y1 ∧ Kd.C (Kd.int .u8) w9 y0 D1.length D1 by
    obtain ⟨_, _, q1, hc, hC⟩ := Kd.R_reads HV0.out
    cases q1
    exact ⟨hc, Kd.C_below hC C9.out⟩)
  have HV19 := Aside0.mk (show F1.length ≤ z1' ∧ Kd.C k53 w9 z0 F1.length F1 by
    obtain ⟨_, _, q1, hc, hC⟩ := Kd.R_reads HV1.out
    cases q1
    exact ⟨hc, Kd.C_below hC C9.out⟩)
  have HCELL := Aside0.mk (fun (W : World) (h : Below w9.heap.size w9 W) => (show (W.cell? ⟨w.heap.size, 0, none⟩ = some (Value.int .i64 (e0 : Int)) ∧ W.cell? ⟨w.heap.size, 1, none⟩ = some (Value.int .i64 (e1 : Int)) ∧ W.cell? ⟨w.heap.size, 2, none⟩ = some (Value.int .i64 (e2 : Int))) ∧ (W.cell? ⟨w3.heap.size, 0, none⟩ = some (Value.slice y0 D1.length y1) ∧ W.cell? ⟨w3.heap.size, 1, none⟩ = some (Value.slice z0 F1.length z1') ∧ W.cell? ⟨w3.heap.size, 2, none⟩ = some (Value.int .i64 z1)) ∧ W.cell? ⟨w8.heap.size, 0, none⟩ = some (Value.int .i64 (X.place : Int)) ∧ W.cell? ⟨w8.heap.size, 1, none⟩ = some (Value.int .u64 (X.n : Int)) ∧ W.cell? ⟨w8.heap.size, 2, none⟩ = some (Value.int .i64 (X.count : Int)) ∧ W.cell? ⟨w8.heap.size, 3, none⟩ = some (Value.int .i64 (X.lines : Int)) ∧ W.cell? ⟨w8.heap.size, 4, none⟩ = some (Value.int .i64 (X.size : Int)) ∧ W.cell? ⟨w8.heap.size, 5, none⟩ = some (Value.string (strOfNums X.text)) ∧ W.cell? ⟨w8.heap.size, 6, none⟩ = some (Value.slice B0 X.data.length j0) ∧ W.cell? ⟨w8.heap.size, 7, none⟩ = some (Value.slice B1 X.fields.length j1) ∧ W.cell? ⟨w8.heap.size, 8, none⟩ = some (Value.int .i64 (at_ : Int)) ∧ W.cell? ⟨w8.heap.size, 9, none⟩ = some (Value.int .i64 er) from
    ⟨HL.out W (B9.out.trans (h.mono B9.out.size)), ⟨(blk_cell (blk_below HG4.out (C9.out.trans (h.mono C9.out.size))) 0).trans rfl, (blk_cell (blk_below HG4.out (C9.out.trans (h.mono C9.out.size))) 1).trans rfl, (blk_cell (blk_below HG4.out (C9.out.trans (h.mono C9.out.size))) 2).trans rfl⟩, (blk_cell (blk_below HGT.out h) 0).trans rfl, (blk_cell (blk_below HGT.out h) 1).trans rfl, (blk_cell (blk_below HGT.out h) 2).trans rfl, (blk_cell (blk_below HGT.out h) 3).trans rfl, (blk_cell (blk_below HGT.out h) 4).trans rfl, (blk_cell (blk_below HGT.out h) 5).trans rfl, (blk_cell (blk_below HGT.out h) 6).trans rfl, (blk_cell (blk_below HGT.out h) 7).trans rfl, (blk_cell (blk_below HGT.out h) 8).trans rfl, (blk_cell (blk_below HGT.out h) 9).trans rfl⟩))
  have hlt : D1.length ≤ 1000000 ∧ F1.length ≤ 1000000 ∧ p1 = (at_ : Int) ∧ er = r1 := by
    have hx := HX.out
    have ht := HT.out
    unfold toldB at ht
    split at ht
    · rename_i h
      cases ht
      exact ⟨by show X.data.length ≤ 1000000; omega, by show X.fields.length ≤ 1000000; omega, rfl, h⟩
    · cases ht
      exact ⟨by simp, by simp, rfl, rfl⟩
  obtain ⟨hD, hF, rfl, rfl⟩ := hlt
  obtain ⟨O, HO⟩ : ∃ O : Value, Aside0 ((∀ W : World, Calls Tryd.prog 37 #[.agg #[Value.int .i64 (X.place : Int), Value.int .u64 (X.n : Int), Value.int .i64 (X.count : Int), Value.int .i64 (X.lines : Int), Value.int .i64 (X.size : Int), Value.string (strOfNums X.text), Value.slice B0 X.data.length j0, Value.slice B1 X.fields.length j1, Value.int .i64 (at_ : Int), Value.int .i64 er]] W fun e w' => e = .returned O ∧ Below W.heap.size W w') ∧ ∀ W, Below w9.heap.size w9 W → Calls Tryd.prog 32 #[.agg #[Value.slice y0 D1.length y1, Value.slice z0 F1.length z1', Value.int .i64 z1], O] W (fun e w' => e = .returned (.bool true) ∧ Below W.heap.size W w') ∧ Calls Tryd.prog 38 #[.agg #[Value.slice y0 D1.length y1, Value.slice z0 F1.length z1', Value.int .i64 z1], O] W (fun e w' => e = .returned (.bool true) ∧ Below W.heap.size W w')) := by
    refine ⟨ofV B0 B1 X.data.length X.fields.length j0 j1 at_ er, ⟨fun W => of8_calls X B0 B1 _ _ j0 j1 at_ er W, fun W hW => ?_⟩⟩
    have hTW := (HK.out W (HT1.out W (B9.out.trans (hW.mono B9.out.size)))).2
    have ht := HT.out
    by_cases h : er = 0
    · rw [ofV, if_pos h]
      rw [toldB_ok (r := (X, at_, er)) h] at ht
      cases ht
      refine ⟨(catchpitlaw08_same.calls 1000001 _ _ X.data _ _ X.fields _ _ _ X.data _ _ X.fields _ true W (Kd.C_below HV09.out.2 hW) HV09.out.1 (Kd.C_below HV19.out.2 hW) HV19.out.1 (Kd.C_below HX09.out hW) HJ.out.1 (Kd.C_below HX19.out hW) HJ.out.2 hTW (sameB_refl _ _ _ hD hF)).mono fun e w' hh => ⟨hh.1, hh.2⟩, (bodySame_calls 1000001 _ _ X.data _ _ X.fields _ _ _ X.data _ _ X.fields _ true W (Kd.C_below HV09.out.2 hW) (Kd.C_below HV19.out.2 hW) HV19.out.1 (Kd.C_below HX09.out hW) (Kd.C_below HX19.out hW) HJ.out.2 hTW (eqF_eq _ hF _ (by omega))).mono fun e w' hh => ⟨hh.1.trans (by rw [strEq_refl]; simp), hh.2⟩⟩
    · rw [ofV, if_neg h]
      rw [toldB_err (r := (X, at_, er)) h] at ht
      cases ht
      have n0 : Kd.C (Kd.int .u8) W none ([] : List Int).length [] := ⟨rfl, Nat.zero_le _, fun h => absurd h (Nat.lt_irrefl _)⟩
      have n1 : Kd.C k53 W none ([] : List Fld).length [] := ⟨rfl, Nat.zero_le _, fun h => absurd h (Nat.lt_irrefl _)⟩
      refine ⟨(catchpitlaw08_same.calls 1000001 _ _ [] _ _ [] _ none 0 [] none 0 [] 0 true W (Kd.C_below HV09.out.2 hW) HV09.out.1 (Kd.C_below HV19.out.2 hW) HV19.out.1 n0 (Nat.zero_le _) n1 (Nat.zero_le _) hTW (sameB_refl _ _ _ hD hF)).mono fun e w' hh => ⟨hh.1, hh.2⟩, (bodySame_calls 1000001 _ _ [] _ _ [] _ none 0 [] none 0 [] 0 true W (Kd.C_below HV09.out.2 hW) (Kd.C_below HV19.out.2 hW) HV19.out.1 n0 n1 (Nat.zero_le _) hTW (eqF_eq _ hF _ (by omega))).mono fun e w' hh => ⟨hh.1.trans (by rw [strEq_refl]; simp), hh.2⟩⟩
  obtain ⟨q, HZ⟩ : ∃ q : Bool, Aside0 (∀ W, Below w9.heap.size w9 W → Calls Tryd.prog 32 #[.agg #[Value.slice y0 D1.length y1, Value.slice z0 F1.length z1', Value.int .i64 z1], .agg #[.slice none 0 0, .slice none 0 0, .int .i64 0]] W (fun e w' => e = .returned (.bool q) ∧ Below W.heap.size W w') ∧ Calls Tryd.prog 38 #[.agg #[Value.slice y0 D1.length y1, Value.slice z0 F1.length z1', Value.int .i64 z1], .agg #[.slice none 0 0, .slice none 0 0, .int .i64 0]] W (fun e w' => e = .returned (.bool q) ∧ Below W.heap.size W w')) := by
    refine ⟨decide (D1 = []) && decide (F1 = []) && (z1 == 0), ⟨fun W hW => ?_⟩⟩
    have hTW := (HK.out W (HT1.out W (B9.out.trans (hW.mono B9.out.size)))).2
    have n0 : Kd.C (Kd.int .u8) W none ([] : List Int).length [] := ⟨rfl, Nat.zero_le _, fun h => absurd h (Nat.lt_irrefl _)⟩
    have n1 : Kd.C k53 W none ([] : List Fld).length [] := ⟨rfl, Nat.zero_le _, fun h => absurd h (Nat.lt_irrefl _)⟩
    refine ⟨(catchpitlaw08_same.calls 1000001 _ _ D1 _ _ F1 z1 none 0 [] none 0 [] 0 _ W (Kd.C_below HV09.out.2 hW) HV09.out.1 (Kd.C_below HV19.out.2 hW) HV19.out.1 n0 (Nat.zero_le _) n1 (Nat.zero_le _) hTW (sameB_nil D1 F1 z1 hD)).mono fun e w' hh => ⟨hh.1, hh.2⟩, (bodySame_calls 1 _ _ D1 _ _ F1 z1 none 0 [] none 0 [] 0 _ W (Kd.C_below HV09.out.2 hW) (Kd.C_below HV19.out.2 hW) HV19.out.1 n0 n1 (Nat.zero_le _) hTW (eqF_nil F1 0)).mono fun e w' hh => ⟨hh.1.trans (by rw [strEq_nil]), hh.2⟩⟩
  have HPW := Aside0.mk (fun W (h : Below w9.heap.size w9 W) => HPF.out W (HT1.out W (B9.out.trans (h.mono B9.out.size))))
  have HSW := Aside0.mk (fun W (h : Below w9.heap.size w9 W) (A' : Option Addr) (c' : Nat) (hc' : X.data.length ≤ c') (hr' : Kd.C (Kd.int .u8) W A' X.data.length X.data) => catchpitref08_Same.calls 1000001 A' c' X.data B0 j0 X.data true W hr' hc' (Kd.C_below HX09.out h) HJ.out.1 (HK.out W (HT1.out W (B9.out.trans (h.mono B9.out.size)))).2 (by rw [Same8_eq _ _ (by have := HX.out; omega) _ (by have := HX.out; omega), decide_eq_true rfl]))
  have BC := Aside0.mk (below_drew (Below.refl w9.heap.size w9))
  have dd := HCELL.out _ BC.out
  have hlt9 : w8.heap.size < w9.heap.size := blk_lt HGT.out
  clear hD hF
  refine wp_region_held_drew (S := (fun W => (W.cell? ⟨w.heap.size, 0, none⟩ = some (Value.int .i64 (e0 : Int)) ∧ W.cell? ⟨w.heap.size, 1, none⟩ = some (Value.int .i64 (e1 : Int)) ∧ W.cell? ⟨w.heap.size, 2, none⟩ = some (Value.int .i64 (e2 : Int))) ∧ (W.cell? ⟨w3.heap.size, 0, none⟩ = some (Value.slice y0 D1.length y1) ∧ W.cell? ⟨w3.heap.size, 1, none⟩ = some (Value.slice z0 F1.length z1') ∧ W.cell? ⟨w3.heap.size, 2, none⟩ = some (Value.int .i64 z1)) ∧ W.cell? ⟨w8.heap.size, 0, none⟩ = some (Value.int .i64 (X.place : Int)) ∧ W.cell? ⟨w8.heap.size, 1, none⟩ = some (Value.int .u64 (X.n : Int)) ∧ W.cell? ⟨w8.heap.size, 2, none⟩ = some (Value.int .i64 (X.count : Int)) ∧ W.cell? ⟨w8.heap.size, 3, none⟩ = some (Value.int .i64 (X.lines : Int)) ∧ W.cell? ⟨w8.heap.size, 4, none⟩ = some (Value.int .i64 (X.size : Int)) ∧ W.cell? ⟨w8.heap.size, 5, none⟩ = some (Value.string (strOfNums X.text)) ∧ W.cell? ⟨w8.heap.size, 6, none⟩ = some (Value.slice B0 X.data.length j0) ∧ W.cell? ⟨w8.heap.size, 7, none⟩ = some (Value.slice B1 X.fields.length j1) ∧ W.cell? ⟨w8.heap.size, 8, none⟩ = some (Value.int .i64 (at_ : Int)) ∧ W.cell? ⟨w8.heap.size, 9, none⟩ = some (Value.int .i64 er))) (by kernel_rfl) ?_ (fun hHeld => ?_)
  · exact HCELL.out _ BC.out
  refine take_at (i := 0) (take_d rfl) ?_
  intro h_i
  refine wpAnyH_take (v := ?_) h_i (by kernel_rfl) (by kernel_rfl) (by kernel_rfl) (fun _ _ _ h => h) (Or.inl ⟨by rfl, ?_⟩) (by assumption) ?_
  case refine_2 => (intro w hSw; (try dsimp only at hSw); go_simp; (try with_reducible rfl))
  clear h_i
  try simp only [Act.put, List.setIfInBounds_toArray, List.set_cons_zero, List.set_cons_succ]
  refine take_at (i := 1) (take_d rfl) ?_
  intro h_i
  refine wpAnyH_take (v := ?_) h_i (by kernel_rfl) (by kernel_rfl) (by kernel_rfl) (fun _ _ _ h => h) (Or.inl ⟨by rfl, ?_⟩) (by assumption) ?_
  case refine_2 => (intro w hSw; (try dsimp only at hSw); go_simp; (try with_reducible rfl))
  clear h_i
  try simp only [Act.put, List.setIfInBounds_toArray, List.set_cons_zero, List.set_cons_succ]
  refine wpAnyH_ready (rs := [2]) (by kernel_rfl) (by simp) ?_
  refine AllReadyH.cons (take_d rfl) (fun zK hK => ?_) AllReadyH.nil
  go_simp
  refine (HO.out.1 _).mono ?_
  rintro e wn ⟨rfl, hbn⟩
  have BC := Aside0.mk (BC.out.trans (hbn.mono BC.out.size))
  clear hbn
  go_wp2_with fail
  refine hK.out _ _ ?_ (fun hHeld2 => ?_)
  · exact HCELL.out _ BC.out
  clear hK zK hHeld
  have hHeld := hHeld2
  clear hHeld2
  try simp only [Act.put, List.setIfInBounds_toArray, List.set_cons_zero, List.set_cons_succ]
  refine wpAnyH_ready (rs := [3]) (by kernel_rfl) (by simp) ?_
  refine AllReadyH.cons (take_d rfl) (fun zK hK => ?_) AllReadyH.nil
  go_simp
  refine (HO.out.2 _ BC.out).1.mono ?_
  rintro e wn ⟨rfl, hbn⟩
  have BC := Aside0.mk (BC.out.trans (hbn.mono BC.out.size))
  clear hbn
  go_wp2_with fail
  refine hK.out _ _ ?_ (fun hHeld2 => ?_)
  · exact HCELL.out _ BC.out
  clear hK zK hHeld
  have hHeld := hHeld2
  clear hHeld2
  try simp only [Act.put, List.setIfInBounds_toArray, List.set_cons_zero, List.set_cons_succ]
  refine take_at (i := 4) (take_d rfl) ?_
  intro h_i
  refine wpAnyH_take (v := ?_) h_i (by kernel_rfl) (by kernel_rfl) (by kernel_rfl) (fun _ _ _ h => h) (Or.inl ⟨by rfl, ?_⟩) (by assumption) ?_
  case refine_2 => (intro w hSw; (try dsimp only at hSw); go_simp; (try with_reducible rfl))
  clear h_i
  try simp only [Act.put, List.setIfInBounds_toArray, List.set_cons_zero, List.set_cons_succ]
  refine take_at (i := 5) (take_d rfl) ?_
  intro h_i
  refine wpAnyH_take (v := ?_) h_i (by kernel_rfl) (by kernel_rfl) (by kernel_rfl) (fun _ _ _ h => h) (Or.inl ⟨by rfl, ?_⟩) (by assumption) ?_
  case refine_2 => (intro w hSw; (try dsimp only at hSw); go_simp; (try with_reducible rfl))
  clear h_i
  try simp only [Act.put, List.setIfInBounds_toArray, List.set_cons_zero, List.set_cons_succ]
  refine take_at (i := 6) (take_d rfl) ?_
  intro h_i
  refine wpAnyH_take (v := ?_) h_i (by kernel_rfl) (by kernel_rfl) (by kernel_rfl) (fun _ _ _ h => h) (Or.inl ⟨by rfl, ?_⟩) (by assumption) ?_
  case refine_2 => (intro w hSw; (try dsimp only at hSw); go_simp; (try with_reducible rfl))
  clear h_i
  try simp only [Act.put, List.setIfInBounds_toArray, List.set_cons_zero, List.set_cons_succ]
  refine wpAnyH_ready (rs := [7]) (by kernel_rfl) (by simp) ?_
  refine AllReadyH.cons (take_d rfl) (fun zK hK => ?_) AllReadyH.nil
  go_simp
  refine (HO.out.1 _).mono ?_
  rintro e wn ⟨rfl, hbn⟩
  have BC := Aside0.mk (BC.out.trans (hbn.mono BC.out.size))
  clear hbn
  go_wp2_with fail
  refine hK.out _ _ ?_ (fun hHeld2 => ?_)
  · exact HCELL.out _ BC.out
  clear hK zK hHeld
  have hHeld := hHeld2
  clear hHeld2
  try simp only [Act.put, List.setIfInBounds_toArray, List.set_cons_zero, List.set_cons_succ]
  refine wpAnyH_ready (rs := [8]) (by kernel_rfl) (by simp) ?_
  refine AllReadyH.cons (take_d rfl) (fun zK hK => ?_) AllReadyH.nil
  go_simp
  refine (HO.out.2 _ BC.out).2.mono ?_
  rintro e wn ⟨rfl, hbn⟩
  have BC := Aside0.mk (BC.out.trans (hbn.mono BC.out.size))
  clear hbn
  go_wp2_with fail
  refine hK.out _ _ ?_ (fun hHeld2 => ?_)
  · exact HCELL.out _ BC.out
  clear hK zK hHeld
  have hHeld := hHeld2
  clear hHeld2
  try simp only [Act.put, List.setIfInBounds_toArray, List.set_cons_zero, List.set_cons_succ]
  refine take_at (i := 9) (take_d rfl) ?_
  intro h_i
  refine wpAnyH_take (v := ?_) h_i (by kernel_rfl) (by kernel_rfl) (by kernel_rfl) (fun _ _ _ h => h) (Or.inl ⟨by rfl, ?_⟩) (by assumption) ?_
  case refine_2 => (intro w hSw; (try dsimp only at hSw); go_simp; (try with_reducible rfl))
  clear h_i
  try simp only [Act.put, List.setIfInBounds_toArray, List.set_cons_zero, List.set_cons_succ]
  refine take_at (i := 10) (take_d rfl) ?_
  intro h_i
  refine wpAnyH_take (v := ?_) h_i (by kernel_rfl) (by kernel_rfl) (by kernel_rfl) (fun _ _ _ h => h) (Or.inl ⟨by rfl, ?_⟩) (by assumption) ?_
  case refine_2 => (intro w hSw; (try dsimp only at hSw); go_simp; (try with_reducible rfl))
  clear h_i
  try simp only [Act.put, List.setIfInBounds_toArray, List.set_cons_zero, List.set_cons_succ]
  refine take_at (i := 11) (take_d rfl) ?_
  intro h_i
  refine wpAnyH_take (v := ?_) h_i (by kernel_rfl) (by kernel_rfl) (by kernel_rfl) (fun _ _ _ h => h) (Or.inl ⟨by rfl, ?_⟩) (by assumption) ?_
  case refine_2 => (intro w hSw; (try dsimp only at hSw); go_simp; (try with_reducible rfl))
  clear h_i
  try simp only [Act.put, List.setIfInBounds_toArray, List.set_cons_zero, List.set_cons_succ]
  refine take_at (i := 12) (take_d rfl) ?_
  intro h_i
  refine wpAnyH_take (v := ?_) h_i (by kernel_rfl) (by kernel_rfl) (by kernel_rfl) (fun _ _ _ h => h) (Or.inl ⟨by rfl, ?_⟩) (by assumption) ?_
  case refine_2 => (intro w hSw; (try dsimp only at hSw); go_simp; (try with_reducible rfl))
  clear h_i
  try simp only [Act.put, List.setIfInBounds_toArray, List.set_cons_zero, List.set_cons_succ]
  refine take_at (i := 14) (take_d rfl) ?_
  intro h_i
  refine wpAnyH_take (v := ?_) h_i (by kernel_rfl) (by kernel_rfl) (by kernel_rfl) (fun _ _ _ h => h) (Or.inl ⟨by rfl, ?_⟩) (by assumption) ?_
  case refine_2 => (intro w hSw; (try dsimp only at hSw); go_simp; (try with_reducible rfl))
  clear h_i
  try simp only [Act.put, List.setIfInBounds_toArray, List.set_cons_zero, List.set_cons_succ]
  refine take_at (i := 15) (take_d rfl) ?_
  intro h_i
  refine wpAnyH_take (v := ?_) h_i (by kernel_rfl) (by kernel_rfl) (by kernel_rfl) (fun _ _ _ h => h) (Or.inl ⟨by rfl, ?_⟩) (by assumption) ?_
  case refine_2 => (intro w hSw; (try dsimp only at hSw); go_simp; (try with_reducible rfl))
  clear h_i
  try simp only [Act.put, List.setIfInBounds_toArray, List.set_cons_zero, List.set_cons_succ]
  refine wpAnyH_ready (rs := [13]) (by kernel_rfl) (by simp) ?_
  refine AllReadyH.cons (take_d rfl) (fun zK hK => ?_) AllReadyH.nil
  go_simp
  refine (HZ.out _ BC.out).2.mono ?_
  rintro e wn ⟨rfl, hbn⟩
  have BC := Aside0.mk (BC.out.trans (hbn.mono BC.out.size))
  clear hbn
  go_wp2_with fail
  refine hK.out _ _ ?_ (fun hHeld2 => ?_)
  · exact HCELL.out _ BC.out
  clear hK zK hHeld
  have hHeld := hHeld2
  clear hHeld2
  try simp only [Act.put, List.setIfInBounds_toArray, List.set_cons_zero, List.set_cons_succ]
  refine wpAnyH_ready (rs := [16]) (by kernel_rfl) (by simp) ?_
  refine AllReadyH.cons (take_d rfl) (fun zK hK => ?_) AllReadyH.nil
  go_simp
  refine (HZ.out _ BC.out).1.mono ?_
  rintro e wn ⟨rfl, hbn⟩
  have BC := Aside0.mk (BC.out.trans (hbn.mono BC.out.size))
  clear hbn
  go_wp2_with fail
  refine hK.out _ _ ?_ (fun hHeld2 => ?_)
  · exact HCELL.out _ BC.out
  clear hK zK hHeld
  have hHeld := hHeld2
  clear hHeld2
  try simp only [Act.put, List.setIfInBounds_toArray, List.set_cons_zero, List.set_cons_succ]
  refine take_at (i := 17) (take_d rfl) ?_
  intro h_i
  refine wpAnyH_take (v := ?_) h_i (by kernel_rfl) (by kernel_rfl) (by kernel_rfl) (fun _ _ _ h => h) (Or.inl ⟨by rfl, ?_⟩) (by assumption) ?_
  case refine_2 => (intro w hSw; (try dsimp only at hSw); go_simp; (try with_reducible rfl))
  clear h_i
  try simp only [Act.put, List.setIfInBounds_toArray, List.set_cons_zero, List.set_cons_succ]
  refine take_at (i := 18) (take_d rfl) ?_
  intro h_i
  refine wpAnyH_take (v := ?_) h_i (by kernel_rfl) (by kernel_rfl) (by kernel_rfl) (fun _ _ _ h => h) (Or.inl ⟨by rfl, ?_⟩) (by assumption) ?_
  case refine_2 => (intro w hSw; (try dsimp only at hSw); go_simp; (try with_reducible rfl))
  clear h_i
  try simp only [Act.put, List.setIfInBounds_toArray, List.set_cons_zero, List.set_cons_succ]
  refine take_at (i := 19) (take_d rfl) ?_
  intro h_i
  refine wpAnyH_take (v := ?_) h_i (by kernel_rfl) (by kernel_rfl) (by kernel_rfl) (fun _ _ _ h => h) (Or.inl ⟨by rfl, ?_⟩) (by assumption) ?_
  case refine_2 => (intro w hSw; (try dsimp only at hSw); go_simp; (try with_reducible rfl))
  clear h_i
  try simp only [Act.put, List.setIfInBounds_toArray, List.set_cons_zero, List.set_cons_succ]
  refine take_at (i := 20) (take_d rfl) ?_
  intro h_i
  refine wpAnyH_take (v := ?_) h_i (by kernel_rfl) (by kernel_rfl) (by kernel_rfl) (fun _ _ _ h => h) (Or.inl ⟨by rfl, ?_⟩) (by assumption) ?_
  case refine_2 => (intro w hSw; (try dsimp only at hSw); go_simp; (try with_reducible rfl))
  clear h_i
  try simp only [Act.put, List.setIfInBounds_toArray, List.set_cons_zero, List.set_cons_succ]
  refine take_at (i := 21) (take_d rfl) ?_
  intro h_i
  refine wpAnyH_take (v := ?_) h_i (by kernel_rfl) (by kernel_rfl) (by kernel_rfl) (fun _ _ _ h => h) (Or.inl ⟨by rfl, ?_⟩) (by assumption) ?_
  case refine_2 => (intro w hSw; (try dsimp only at hSw); go_simp; (try with_reducible rfl))
  clear h_i
  try simp only [Act.put, List.setIfInBounds_toArray, List.set_cons_zero, List.set_cons_succ]
  refine take_at (i := 22) (take_d rfl) ?_
  intro h_i
  refine wpAnyH_take (v := ?_) h_i (by kernel_rfl) (by kernel_rfl) (by kernel_rfl) (fun _ _ _ h => h) (Or.inl ⟨by rfl, ?_⟩) (by assumption) ?_
  case refine_2 => (intro w hSw; (try dsimp only at hSw); go_simp; (try with_reducible rfl))
  clear h_i
  try simp only [Act.put, List.setIfInBounds_toArray, List.set_cons_zero, List.set_cons_succ]
  refine take_at (i := 23) (take_d rfl) ?_
  intro h_i
  refine wpAnyH_take (v := ?_) h_i (by kernel_rfl) (by kernel_rfl) (by kernel_rfl) (fun _ _ _ h => h) (Or.inl ⟨by rfl, ?_⟩) (by assumption) ?_
  case refine_2 => (intro w hSw; (try dsimp only at hSw); go_simp; (try with_reducible rfl))
  clear h_i
  try simp only [Act.put, List.setIfInBounds_toArray, List.set_cons_zero, List.set_cons_succ]
  refine take_at (i := 24) (take_d rfl) ?_
  intro h_i
  refine wpAnyH_take (v := ?_) h_i (by kernel_rfl) (by kernel_rfl) (by kernel_rfl) (fun _ _ _ h => h) (Or.inl ⟨by rfl, ?_⟩) (by assumption) ?_
  case refine_2 => (intro w hSw; (try dsimp only at hSw); go_simp; (try with_reducible rfl))
  clear h_i
  try simp only [Act.put, List.setIfInBounds_toArray, List.set_cons_zero, List.set_cons_succ]
  refine take_at (i := 25) (take_d rfl) ?_
  intro h_i
  refine wpAnyH_take (v := ?_) h_i (by kernel_rfl) (by kernel_rfl) (by kernel_rfl) (fun _ _ _ h => h) (Or.inl ⟨by rfl, ?_⟩) (by assumption) ?_
  case refine_2 => (intro w hSw; (try dsimp only at hSw); go_simp; (try with_reducible rfl))
  clear h_i
  try simp only [Act.put, List.setIfInBounds_toArray, List.set_cons_zero, List.set_cons_succ]
  refine take_at (i := 26) (take_d rfl) ?_
  intro h_i
  refine wpAnyH_take (v := ?_) h_i (by kernel_rfl) (by kernel_rfl) (by kernel_rfl) (fun _ _ _ h => h) (Or.inl ⟨by rfl, ?_⟩) (by assumption) ?_
  case refine_2 => (intro w hSw; (try dsimp only at hSw); go_simp; (try with_reducible rfl))
  clear h_i
  try simp only [Act.put, List.setIfInBounds_toArray, List.set_cons_zero, List.set_cons_succ]
  refine take_at (i := 27) (take_d rfl) ?_
  intro h_i
  refine wpAnyH_take (v := ?_) h_i (by kernel_rfl) (by kernel_rfl) (by kernel_rfl) (fun _ _ _ h => h) (Or.inl ⟨by rfl, ?_⟩) (by assumption) ?_
  case refine_2 => (intro w hSw; (try dsimp only at hSw); go_simp; (try with_reducible rfl))
  clear h_i
  try simp only [Act.put, List.setIfInBounds_toArray, List.set_cons_zero, List.set_cons_succ]
  refine take_at (i := 28) (take_d rfl) ?_
  intro h_i
  refine wpAnyH_take (v := ?_) h_i (by kernel_rfl) (by kernel_rfl) (by kernel_rfl) (fun _ _ _ h => h) (Or.inl ⟨by rfl, ?_⟩) (by assumption) ?_
  case refine_2 => (intro w hSw; (try dsimp only at hSw); go_simp; (try with_reducible rfl))
  clear h_i
  try simp only [Act.put, List.setIfInBounds_toArray, List.set_cons_zero, List.set_cons_succ]
  refine take_at (i := 29) (take_d rfl) ?_
  intro h_i
  refine wpAnyH_take (v := ?_) h_i (by kernel_rfl) (by kernel_rfl) (by kernel_rfl) (fun _ _ _ h => h) (Or.inl ⟨by rfl, ?_⟩) (by assumption) ?_
  case refine_2 => (intro w hSw; (try dsimp only at hSw); go_simp; (try with_reducible rfl))
  clear h_i
  try simp only [Act.put, List.setIfInBounds_toArray, List.set_cons_zero, List.set_cons_succ]
  refine take_at (i := 30) (take_d rfl) ?_
  intro h_i
  refine wpAnyH_take (v := ?_) h_i (by kernel_rfl) (by kernel_rfl) (by kernel_rfl) (fun _ _ _ h => h) (Or.inl ⟨by rfl, ?_⟩) (by assumption) ?_
  case refine_2 => (intro w hSw; (try dsimp only at hSw); go_simp; (try with_reducible rfl))
  clear h_i
  try simp only [Act.put, List.setIfInBounds_toArray, List.set_cons_zero, List.set_cons_succ]
  refine take_at (i := 31) (take_d rfl) ?_
  intro h_i
  refine wpAnyH_take (v := ?_) h_i (by kernel_rfl) (by kernel_rfl) (by kernel_rfl) (fun _ _ _ h => h) (Or.inl ⟨by rfl, ?_⟩) (by assumption) ?_
  case refine_2 => (intro w hSw; (try dsimp only at hSw); go_simp; (try with_reducible rfl))
  clear h_i
  try simp only [Act.put, List.setIfInBounds_toArray, List.set_cons_zero, List.set_cons_succ]
  refine take_at (i := 32) (take_d rfl) ?_
  intro h_i
  refine wpAnyH_take (v := ?_) h_i (by kernel_rfl) (by kernel_rfl) (by kernel_rfl) (fun _ _ _ h => h) (Or.inl ⟨by rfl, ?_⟩) (by assumption) ?_
  case refine_2 => (intro w hSw; (try dsimp only at hSw); go_simp; (try with_reducible rfl))
  clear h_i
  try simp only [Act.put, List.setIfInBounds_toArray, List.set_cons_zero, List.set_cons_succ]
  refine take_at (i := 33) (take_d rfl) ?_
  intro h_i
  refine wpAnyH_take (v := ?_) h_i (by kernel_rfl) (by kernel_rfl) (by kernel_rfl) (fun _ _ _ h => h) (Or.inl ⟨by rfl, ?_⟩) (by assumption) ?_
  case refine_2 => (intro w hSw; (try dsimp only at hSw); go_simp; (try with_reducible rfl))
  clear h_i
  try simp only [Act.put, List.setIfInBounds_toArray, List.set_cons_zero, List.set_cons_succ]
  refine take_at (i := 35) (take_d rfl) ?_
  intro h_i
  refine wpAnyH_take (v := ?_) h_i (by kernel_rfl) (by kernel_rfl) (by kernel_rfl) (fun _ _ _ h => h) (Or.inl ⟨by rfl, ?_⟩) (by assumption) ?_
  case refine_2 => (intro w hSw; (try dsimp only at hSw); go_simp; (try with_reducible rfl))
  clear h_i
  try simp only [Act.put, List.setIfInBounds_toArray, List.set_cons_zero, List.set_cons_succ]
  refine take_at (i := 36) (take_d rfl) ?_
  intro h_i
  refine wpAnyH_take (v := ?_) h_i (by kernel_rfl) (by kernel_rfl) (by kernel_rfl) (fun _ _ _ h => h) (Or.inl ⟨by rfl, ?_⟩) (by assumption) ?_
  case refine_2 => (intro w hSw; (try dsimp only at hSw); go_simp; (try with_reducible rfl))
  clear h_i
  try simp only [Act.put, List.setIfInBounds_toArray, List.set_cons_zero, List.set_cons_succ]
  refine take_at (i := 37) (take_d rfl) ?_
  intro h_i
  refine wpAnyH_take (v := ?_) h_i (by kernel_rfl) (by kernel_rfl) (by kernel_rfl) (fun _ _ _ h => h) (Or.inl ⟨by rfl, ?_⟩) (by assumption) ?_
  case refine_2 => (intro w hSw; (try dsimp only at hSw); go_simp; (try with_reducible rfl))
  clear h_i
  try simp only [Act.put, List.setIfInBounds_toArray, List.set_cons_zero, List.set_cons_succ]
  refine wpAnyH_ready (rs := [34]) (by kernel_rfl) (by simp) ?_
  refine AllReadyH.cons (take_d rfl) (fun zK hK => ?_) AllReadyH.nil
  go_simp
  refine (HPW.out _ BC.out).mono ?_
  rintro e wn ⟨v0, rfl, hv0, hbn⟩
  obtain ⟨py0, py1, rfl⟩ := Kd.R_slice hv0
  have HPY := Aside0.mk (Kd.C_below (payRow hv0).2 (Below.refl _ _))
  have HPC := Aside0.mk (payRow hv0).1
  have BC := Aside0.mk (BC.out.trans (hbn.mono BC.out.size))
  clear hbn hv0
  go_wp2_with fail
  refine hK.out _ _ ?_ (fun hHeld2 => ?_)
  · exact HCELL.out _ BC.out
  clear hK zK hHeld
  have hHeld := hHeld2
  clear hHeld2
  try simp only [Act.put, List.setIfInBounds_toArray, List.set_cons_zero, List.set_cons_succ]
  refine wpAnyH_ready (rs := [38]) (by kernel_rfl) (by simp) ?_
  refine AllReadyH.cons (take_d rfl) (fun zK hK => ?_) AllReadyH.nil
  go_simp
  refine (HSW.out _ BC.out _ _ HPC.out HPY.out).mono ?_
  rintro e wn ⟨rfl, hbn⟩
  have BC := Aside0.mk (BC.out.trans (hbn.below.mono BC.out.size))
  clear hbn
  go_wp2_with fail
  refine hK.out _ _ ?_ (fun hHeld2 => ?_)
  · exact HCELL.out _ BC.out
  clear hK zK hHeld
  have hHeld := hHeld2
  clear hHeld2
  try simp only [Act.put, List.setIfInBounds_toArray, List.set_cons_zero, List.set_cons_succ]
  refine take_at (i := 39) (take_d rfl) ?_
  intro h_i
  refine wpAnyH_take (v := ?_) h_i (by kernel_rfl) (by kernel_rfl) (by kernel_rfl) (fun _ _ _ h => h) (Or.inl ⟨by rfl, ?_⟩) (by assumption) ?_
  case refine_2 => (intro w hSw; (try dsimp only at hSw); go_simp; (try with_reducible rfl))
  clear h_i
  try simp only [Act.put, List.setIfInBounds_toArray, List.set_cons_zero, List.set_cons_succ]
  refine take_at (i := 40) (take_d rfl) ?_
  intro h_i
  refine wpAnyH_take (v := ?_) h_i (by kernel_rfl) (by kernel_rfl) (by kernel_rfl) (fun _ _ _ h => h) (Or.inl ⟨by rfl, ?_⟩) (by assumption) ?_
  case refine_2 => (intro w hSw; (try dsimp only at hSw); go_simp; (try with_reducible rfl))
  clear h_i
  try simp only [Act.put, List.setIfInBounds_toArray, List.set_cons_zero, List.set_cons_succ]
  refine wpAnyH_done (by kernel_rfl) ?_ _
  go_wp2
  go_ret
  exact ⟨rfl, HT1.out _ (B9.out.trans (BC.out.mono B9.out.size))⟩
end Go.Proofs.YtmmbpbgcobmifaaDoor.Pd
end
section
namespace Go.Proofs.YtmmbpbgcobmifaaDoor.Pr
end Go.Proofs.YtmmbpbgcobmifaaDoor.Pr
namespace Go.Proofs.YtmmbpbgcobmifaaDoor.Pd
set_option linter.unusedVariables false
set_option linter.unusedSimpArgs false
open Go Go.RowKit Go.Proofs.YtmmbpbgcobmifaaDoorH Go.Proofs.YtmmbpbgcobmifaaDoor.Pr Go.Proofs.YtmmbpbgcobmifaaDoorW.PrintWords Go.Proofs.YtmmbpbgcobmifaaDoorW.PrintLast Go.Proofs.YtmmbpbgcobmifaaDoorW.PrintMore Go.Proofs.YtmmbpbgcobmifaaDoorM
set_option maxHeartbeats 4000000 in
set_option maxRecDepth 100000 in
theorem scans_long (A : Option Addr) (c : Nat) (s : List Int) (x0 x1 x2 : Int) (w : World) (hr : Kd.C (Kd.int .u8) w A s.length s) (hG : TabOk w) (h8 : 800 < s.length) :
    Calls Tryd.prog 12 #[.slice A s.length c, .agg #[.int .i64 x0, .int .i64 x1, .int .i64 x2]] w fun e w' => e = .returned (.bool true) ∧ Below w.heap.size w w' := by
  have hmax : s.length ≤ 9223372036854775807 := hr.2.1
  have HW := Aside0.mk (fun W hg => catchpitlaw08_wakes.calls true W hg rfl)
  have HG := Aside0.mk (fun (W : World) (h : Below w.heap.size w W) => hG.below h)
  obtain ⟨w1, hw1⟩ : ∃ w1, w.alloc (.cells #[.int .i64 x0, .int .i64 x1, .int .i64 x2] 23) = w1 := ⟨_, rfl⟩
  have HB1 := Aside0.mk (show Below w.heap.size w w1 by rw [← hw1]; exact below_alloc (Below.refl _ _) _)
  have HW1 := Aside0.mk hw1
  have h8' : (800 : Int) < (s.length : Int) := by omega
  clear hr hG hw1
  go_enter Tryd.func12, Tryd.ntmps12
  go_wp2_with fail
  rw [HW1.out]
  refine (HW.out w1 (HG.out _ HB1.out)).mono ?_
  rintro e w2 ⟨rfl, hb2⟩
  go_wp2
  go_ret
  exact ⟨rfl, HB1.out.trans (hb2.mono HB1.out.size)⟩
set_option maxHeartbeats 4000000 in
set_option maxRecDepth 100000 in
theorem scans_bad (A : Option Addr) (c : Nat) (s : List Int) (x0 x1 x2 : Int) (w : World) (hr : Kd.C (Kd.int .u8) w A s.length s) (hc : s.length ≤ c) (hG : TabOk w) (hs : byteB s = true) (h8 : s.length ≤ 800) (hR : rightL x0 x1 x2 = false) :
    Calls Tryd.prog 12 #[.slice A s.length c, .agg #[.int .i64 x0, .int .i64 x1, .int .i64 x2]] w fun e w' => e = .returned (.bool true) ∧ Below w.heap.size w w' := by
  have HW := Aside0.mk (fun W hg => catchpitlaw08_wakes.calls true W hg rfl)
  have HR := Aside0.mk (fun W hg => catchpitref08_Right.calls x0 x1 x2 false W hg ((Right8_eq x0 x1 x2).trans (by rw [hR])))
  have HBR := Aside0.mk (fun W hg => body_Right.calls x0 x1 x2 false W hg (by unfold body_Right.f; rw [hR]))
  have HK := Aside0.mk (fun (W : World) (h : Below w.heap.size w W) => (⟨Kd.C_below hr h, hG.below h⟩ : Kd.C (Kd.int .u8) W A s.length s ∧ TabOk W))
  have HS1 := Aside0.mk (fun W (h : Below w.heap.size w W) => body_Scan.calls A c s x0 x1 x2 [] [] 0 0 1 W (HK.out W h).1 hc (HK.out W h).2 (by unfold body_Scan.f; rw [if_pos ⟨by omega, hs⟩, hR]; rfl))
  have HPF := Aside0.mk (fun W (h : Below w.heap.size w W) => body_Payload.calls A c s x0 x1 x2 [] W (HK.out W h).1 hc (HK.out W h).2 (by unfold body_Payload.f; rw [if_pos ⟨by omega, hs⟩, hR]; rfl))
  have h8' : ¬ (800 : Int) < (s.length : Int) := by omega
  have h82 : decide ((800 : Int) < (s.length : Int)) = false := decide_eq_false h8'
  clear hr hG hs hR
  go_enter Tryd.func12, Tryd.ntmps12
  go_wp2_with fail
  obtain ⟨w1, hw1⟩ : ∃ w1, w.alloc (.cells #[.int .i64 x0, .int .i64 x1, .int .i64 x2] 23) = w1 := ⟨_, rfl⟩
  have hL1 : w1.heap[w.heap.size]? = some (.cells #[.int .i64 x0, .int .i64 x1, .int .i64 x2] 23 (0, 0)) := by
    rw [← hw1]; exact World.alloc_heap_new w _
  have HB1 := Aside0.mk (show Below w.heap.size w w1 by rw [← hw1]; exact below_alloc (Below.refl _ _) _)
  rw [hw1]
  have HL := Aside0.mk (fun (W : World) (h : Below w1.heap.size w1 W) => (show W.cell? ⟨w.heap.size, 0, none⟩ = some (.int .i64 x0) ∧ W.cell? ⟨w.heap.size, 1, none⟩ = some (.int .i64 x1) ∧ W.cell? ⟨w.heap.size, 2, none⟩ = some (.int .i64 x2) from
    ⟨(blk_cell ((h.block _ (blk_lt hL1)).trans hL1) 0).trans rfl, (blk_cell ((h.block _ (blk_lt hL1)).trans hL1) 1).trans rfl, (blk_cell ((h.block _ (blk_lt hL1)).trans hL1) 2).trans rfl⟩))
  have HT1 := Aside0.mk (fun (W : World) (h : Below w1.heap.size w1 W) => (HB1.out.trans (h.mono HB1.out.size) : Below w.heap.size w W))
  have hlt1 : w.heap.size < w1.heap.size := blk_lt hL1
  clear hL1 hw1
  refine (HW.out w1 (HK.out _ HB1.out).2).mono ?_
  rintro e w2 ⟨rfl, hb2⟩
  have B2 := Aside0.mk hb2
  obtain ⟨l0, l1, l2⟩ := HL.out w2 hb2
  clear hb2
  go_wp2_with fail
  refine (HS1.out w2 (HT1.out _ B2.out)).mono ?_
  rintro e w3 ⟨v0, v1, rfl, hv0, hv1, hb3⟩
  obtain ⟨y0, y1, rfl⟩ := Kd.R_slice hv0
  obtain ⟨z0, z1', rfl⟩ := Kd.R_slice hv1
  have B3 := Aside0.mk (B2.out.trans (hb3.mono B2.out.size))
  clear l0 l1 l2
  obtain ⟨l0, l1, l2⟩ := HL.out w3 B3.out
  clear hb3
  go_upto_region 6 with (fail)
  obtain ⟨w4, hw4⟩ : ∃ w4, w3.alloc (.cells #[.slice y0 0 y1, .slice z0 0 z1', .int .i64 0] 57) = w4 := ⟨_, rfl⟩
  have B4 := Aside0.mk (show Below w1.heap.size w1 w4 by rw [← hw4]; exact below_alloc B3.out _)
  have HG4 := Aside0.mk (show w4.heap[w3.heap.size]? = some (.cells #[.slice y0 0 y1, .slice z0 0 z1', .int .i64 0] 57 (0, 0)) by rw [← hw4]; exact World.alloc_heap_new w3 _)
  rw [hw4]
  clear hw4 hv0 hv1 l0 l1 l2
  obtain ⟨d0, d1, d2⟩ := HL.out w4.drew (below_drew B4.out)
  go_region_held3 (fun W => W.cell? ⟨w.heap.size, 0, none⟩ = some (.int .i64 x0) ∧ W.cell? ⟨w.heap.size, 1, none⟩ = some (.int .i64 x1) ∧ W.cell? ⟨w.heap.size, 2, none⟩ = some (.int .i64 x2)) (first | exact ⟨d0, d1, d2⟩ | with_reducible exact yy | with_reducible exact xx)
    (first
      | (go_at_call 36; refine (HBR.out _ (HK.out _ (HT1.out _ (below_drew B4.out))).2).mono ?_; rintro e w5 ⟨rfl, hb5⟩; have B5 := Aside0.mk ((below_drew B4.out).trans (hb5.mono (below_drew B4.out).size)); have yy := HL.out _ B5.out; have C5 := Aside0.mk ((below_drew (Below.refl w4.heap.size w4)).trans (hb5.mono (Nat.le_refl _))); clear hb5)
      | (go_at_call 14; refine (HR.out _ (HK.out _ (HT1.out _ B5.out)).2).mono ?_; rintro e w6 ⟨rfl, hb6⟩; have B6 := Aside0.mk (B5.out.trans (hb6.mono B5.out.size)); have xx := HL.out _ B6.out; have C6 := Aside0.mk (C5.out.trans (hb6.mono C5.out.size)); clear hb6))
  clear yy d0 d1 d2
  obtain ⟨l0, l1, l2⟩ := HL.out w6 B6.out
  clear xx
  go_wp2_with fail
  refine (HR.out w6 (HK.out _ (HT1.out _ B6.out)).2).mono ?_
  rintro e w7 ⟨rfl, hb7⟩
  have B7 := Aside0.mk (B6.out.trans (hb7.mono B6.out.size))
  have C7 := Aside0.mk (C6.out.trans (hb7.mono C6.out.size))
  clear hb7 l0 l1 l2
  have hg7 := blk_below HG4.out C7.out
  have b0 : w7.cell? ⟨w3.heap.size, 0, none⟩ = some (.slice y0 0 y1) := (blk_cell hg7 0).trans rfl
  have b1 : w7.cell? ⟨w3.heap.size, 1, none⟩ = some (.slice z0 0 z1') := (blk_cell hg7 1).trans rfl
  have b2 : w7.cell? ⟨w3.heap.size, 2, none⟩ = some (.int .i64 0) := (blk_cell hg7 2).trans rfl
  clear hg7
  have HSM := Aside0.mk (fun (W : World) (hTW : TabOk W) => catchpitlaw08_same.calls 1000001 y0 y1 [] z0 z1' [] 0 none 0 [] none 0 [] 0 true W ⟨rfl, Nat.zero_le _, fun h => absurd h (Nat.lt_irrefl _)⟩ (Nat.zero_le _) ⟨rfl, Nat.zero_le _, fun h => absurd h (Nat.lt_irrefl _)⟩ (Nat.zero_le _) ⟨rfl, Nat.zero_le _, fun h => absurd h (Nat.lt_irrefl _)⟩ (Nat.zero_le _) ⟨rfl, Nat.zero_le _, fun h => absurd h (Nat.lt_irrefl _)⟩ (Nat.zero_le _) hTW (sameB_refl [] [] 0 (by simp) (by simp)))
  go_wp2_with fail
  refine (HSM.out w7 (HK.out _ (HT1.out _ B7.out)).2).mono ?_
  rintro e w8 ⟨rfl, hb8⟩
  have B8 := Aside0.mk (B7.out.trans (hb8.mono B7.out.size))
  clear hb8 b0 b1 b2
  obtain ⟨l0, l1, l2⟩ := HL.out w8 B8.out
  go_wp2_with fail
  refine (HPF.out w8 (HT1.out _ B8.out)).mono ?_
  rintro e w9 ⟨v0, rfl, hv0, hb9⟩
  obtain ⟨py0, py1, rfl⟩ := Kd.R_slice hv0
  have B9 := Aside0.mk (B8.out.trans (hb9.mono B8.out.size))
  clear hb9 hv0 l0 l1 l2
  go_wp2
  go_ret
  exact ⟨rfl, HT1.out _ B9.out⟩
theorem catchpitlaw08_BodyScans.calls (A0 : Option Addr) (c0 : Nat) (l0 : List Int) (a1_0 a1_1 a1_2 : Int) (r : Bool) (w : World) (hr0 : Kd.C (Kd.int .u8) w A0 l0.length l0) (hc0 : l0.length ≤ c0) (hG : TabOk w) (h : catchpitlaw08_BodyScans.f l0 a1_0 a1_1 a1_2 = some r) :
    Calls Tryd.prog 12 #[.slice A0 l0.length c0, .agg #[.int .i64 a1_0, .int .i64 a1_1, .int .i64 a1_2]] w fun e w' => e = .returned (.bool r) ∧ Below w.heap.size w w' := by
  unfold catchpitlaw08_BodyScans.f at h
  split at h
  · rename_i hh
    cases h
    by_cases h8 : 800 < l0.length
    · exact scans_long A0 c0 l0 _ _ _ w hr0 hG h8
    · cases hq : rightL a1_0 a1_1 a1_2 with
      | false => exact scans_bad A0 c0 l0 _ _ _ w hr0 hc0 hG hh (by omega) hq
      | true =>
        obtain ⟨x, y, z, rfl, rfl, rfl, g0, g1, g2⟩ := rightL_nat hq
        exact scans_go A0 c0 l0 x y z w hr0 hc0 hG (byteB_iff.1 hh) (by omega) g0 g1 g2
  · cases h
end Go.Proofs.YtmmbpbgcobmifaaDoor.Pd
end
section
namespace Go.Proofs.YtmmbpbgcobmifaaDoor.Pd
end Go.Proofs.YtmmbpbgcobmifaaDoor.Pd
namespace Go.Proofs.YtmmbpbgcobmifaaDoor.Pure
open Go.RowKit Go.Proofs.YtmmbpbgcobmifaaDoorH Go.Proofs.YtmmbpbgcobmifaaDoor.Pd Go.Proofs.YtmmbpbgcobmifaaDoorW.PrintWords Go.Proofs.YtmmbpbgcobmifaaDoorW.PrintLast
theorem wf_u8 {x : Int} (h : (Lit.int .u8 x).wf = true) : 0 ≤ x ∧ x ≤ 255 := by
  have m2 : IntKind.u8.max = 255 := rfl
  have m1 : IntKind.u8.min = 0 := rfl
  simp [Lit.wf, m1, m2] at h
  omega
theorem wf_bytes {l : List Int} (h : ∀ y ∈ l, (Lit.int .u8 y).wf = true) : byteB l = true := byteB_iff.2 fun x hx => wf_u8 (h x hx)
theorem BodyScans (l : List Int) (x y z : Int) (hl : l.length * 1 ≤ 140737488351232 ∧ ∀ y ∈ l, (Lit.int .u8 y).wf = true) (_hx : (Lit.int .i64 x).wf = true ∧ (Lit.int .i64 y).wf = true ∧ (Lit.int .i64 z).wf = true) :
    catchpitlaw08_BodyScans.f l x y z = some true := if_pos (wf_bytes hl.2)
end Go.Proofs.YtmmbpbgcobmifaaDoor.Pure
end
section
namespace Go.Proofs.YtmmbpbgcobmifaaDoorH
open Go.RowKit Go.ChangeShapes Go.WideShapes Go.ChangeAt
theorem two_of {α : Type} {l : List α} (h : l.length = 2) : ∃ a b, l = [a, b] := by
  match l, h with
  | [a, b], _ => exact ⟨a, b, rfl⟩
theorem three_of {α : Type} {l : List α} (h : l.length = 3) : ∃ a b c, l = [a, b, c] := by
  match l, h with
  | [a, b, c], _ => exact ⟨a, b, c, rfl⟩
theorem six_of {α : Type} {l : List α} (h : l.length = 6) : ∃ a b c d e f, l = [a, b, c, d, e, f] := by
  match l, h with
  | [a, b, c, d, e, f], _ => exact ⟨a, b, c, d, e, f, rfl⟩
theorem cells_of_one {W : World} {cs : List Value} {y : DataW Unit × List MemPlace} {m : Nat} {x0 : Int}
    (hd : DataW.trod (fun _ => ()) Tryd.prog W 0 (fun _ => true) false m 5 cs = some y) (hy : y.1 = .lit (.int .u8 x0)) : cs = [.int .u8 x0] := by
  obtain ⟨n, e1, e2, _⟩ := DataW.trod_int Tryd.underlying5 hd
  rw [e2] at hy
  simp only [DataW.lit.injEq, Lit.int.injEq, true_and] at hy
  rw [e1, hy]
theorem cells_of_pair {W : World} {cs : List Value} {y : DataW Unit × List MemPlace} {m : Nat} {x0 x1 : Int}
    (hd : DataW.trod (fun _ => ()) Tryd.prog W 0 (fun _ => true) false m 109 cs = some y) (hy : y.1 = .agg [.lit (.int .u8 x0), .lit (.int .u8 x1)]) :
    cs = [.int .u8 x0, .int .u8 x1] := by
  have c5 : Tryd.prog.cellsOf 5 = 1 := by kernel_rfl
  have c2 : Tryd.prog.cellsOf 109 = 2 := by kernel_rfl
  obtain ⟨xs, m, _, ex, hn, hl, hel⟩ := DataW.trod_array Tryd.underlying109 hd
  rw [c2] at hn
  obtain ⟨a, b, rfl⟩ := two_of hn
  obtain ⟨u, v, rfl⟩ := two_of hl
  · rw [ex] at hy
    simp only [List.map_cons, List.map_nil, DataW.agg.injEq, List.cons.injEq, and_true] at hy
    have h0 := hel 0 (by omega)
    have h1 := hel 1 (by omega)
    simp only [c5] at h0 h1
    have e0 := cells_of_one (y := u) (by simpa using h0) hy.1
    have e1 := cells_of_one (y := v) (by simpa using h1) hy.2
    simp at e0 e1
    rw [e0, e1]
theorem cells_of_pairs {W : World} {cs : List Value} {y : DataW Unit × List MemPlace} {m : Nat} {x0 x1 x2 x3 x4 x5 : Int}
    (hd : DataW.trod (fun _ => ()) Tryd.prog W 0 (fun _ => true) false m 110 cs = some y)
    (hy : y.1 = .agg [.agg [.lit (.int .u8 x0), .lit (.int .u8 x1)], .agg [.lit (.int .u8 x2), .lit (.int .u8 x3)], .agg [.lit (.int .u8 x4), .lit (.int .u8 x5)]]) :
    cs = [.int .u8 x0, .int .u8 x1, .int .u8 x2, .int .u8 x3, .int .u8 x4, .int .u8 x5] := by
  have c2 : Tryd.prog.cellsOf 109 = 2 := by kernel_rfl
  have c6 : Tryd.prog.cellsOf 110 = 6 := by kernel_rfl
  obtain ⟨xs, m, _, ex, hn, hl, hel⟩ := DataW.trod_array Tryd.underlying110 hd
  rw [c6] at hn
  obtain ⟨a, b, c, d, e, f, rfl⟩ := six_of hn
  obtain ⟨u, v, z, rfl⟩ := three_of hl
  · rw [ex] at hy
    simp only [List.map_cons, List.map_nil, DataW.agg.injEq, List.cons.injEq, and_true] at hy
    have h0 := hel 0 (by omega)
    have h1 := hel 1 (by omega)
    have h2 := hel 2 (by omega)
    simp only [c2] at h0 h1 h2
    have e0 := cells_of_pair (y := u) (by simpa using h0) hy.1
    have e1 := cells_of_pair (y := v) (by simpa using h1) hy.2.1
    have e2 := cells_of_pair (y := z) (by simpa using h2) hy.2.2
    simp at e0 e1 e2
    rw [e0.1, e0.2, e1.1, e1.2, e2.1, e2.2]
theorem tabOk_of_laid {W : World} {L : List (String × DataW Unit)} (h : laidMetH Tryd.prog L W) (hp : (L.all fun x => x.2.handleName?.isNone) = true)
    (hf : L.filter (fun x => x.1 == "catchpit/octet.ends") = [("catchpit/octet.ends", Go.Proofs.YtmmbpbgcobmifaaDoor.Rows.laid_catchpit_octet_ends)]) (hs : W.ShapedOpen Tryd.prog) : TabOk W := by
  rw [MakeChecks.laidMetH_plain _ _ _ hp] at h
  have h2 := laidMet.filter (fun x => x.1 == "catchpit/octet.ends") h
  rw [hf] at h2
  obtain ⟨ps, ⟨g, t, cs, fuel, p, q, hg, ht, hv, hd, _, _⟩, _, _⟩ := h2
  obtain rfl := Option.some.inj ((show Tryd.prog.globalNamed "catchpit/octet.ends" = some 0 by kernel_rfl).symm.trans hg)
  obtain rfl := Option.some.inj ((show (Tryd.prog.globals[0]?).map (·.type) = some 110 by kernel_rfl).symm.trans ht)
  have e := cells_of_pairs hd rfl
  have hc := World.var?_cell hg hv
  have at_ : ∀ j, cs[j]? = cs.toList[j]? := fun j => (Array.getElem?_toList ..).symm
  rw [e] at at_
  exact ⟨(hc 0).trans (at_ 0), (hc 1).trans (at_ 1), (hc 2).trans (at_ 2), (hc 3).trans (at_ 3), (hc 4).trans (at_ 4), (hc 5).trans (at_ 5), MxOk.of_shaped hs⟩
end Go.Proofs.YtmmbpbgcobmifaaDoorH
end
section
namespace Go.Proofs.YtmmbpbgcobmifaaDoorH
open Go.RowKit Go.ChangeShapes Go.WideShapes Go.ChangeAt Go.Proofs.YtmmbpbgcobmifaaDoorW.PrintWords
def Light {H : Type} (P : Program) (t : TypeId) (d : DataW H) : Prop := ∀ x ∈ DataW.weights P t d, x ≤ reachBytes
structure Opens (P : Program) {α : Type} (d : Kd α) (t : TypeId) (G : α → Prop) : Prop where
  cells : P.cellsOf t = d.sz
  open_ : ∀ {H : Type} {enc : TypeId × Value → H} {W : World} {fuel : Nat} {cs : List Value} {x : DataW H × List MemPlace},
    DataW.trod enc P W 0 (fun _ => true) true fuel t cs = some x → Light P t x.1 → ∃ y, d.K W y cs ∧ G y
theorem Opens.int {P : Program} {t : TypeId} {k : IntKind} (hu : P.underlying t = some (.int k)) (hc : P.cellsOf t = 1) : Opens P (Kd.int k) t (fun n => (Lit.int k n).wf = true) := by
  refine ⟨hc, fun h _ => ?_⟩
  obtain ⟨n, e1, e2, wf⟩ := DataW.trod_int hu h
  exact ⟨n, e1, wf⟩
theorem Opens.bool {P : Program} {t : TypeId} (hu : P.underlying t = some .bool) (hc : P.cellsOf t = 1) : Opens P Kd.bool t (fun _ => True) := by
  refine ⟨hc, fun {_ _ _ fuel cs _} h _ => ?_⟩
  cases fuel with
  | zero => simp [DataW.trod] at h
  | succ m =>
    unfold DataW.trod at h
    rw [hu] at h
    match cs, h with
    | [.bool b], _ => exact ⟨b, rfl, trivial⟩
theorem Opens.string {P : Program} {t : TypeId} (hu : P.underlying t = some .string) (hc : P.cellsOf t = 1) : Opens P Kd.string t (fun s => s.size ≤ 140737488351232) := by
  refine ⟨hc, fun h hl => ?_⟩
  obtain ⟨s, e1, e2, _⟩ := DataW.trod_string hu h
  refine ⟨s, e1, ?_⟩
  subst e2
  have := hl s.data.toList.length (by simp [DataW.weights])
  rw [data_length] at this
  exact this
theorem weightsAll_mem {H : Type} (P : Program) (e : TypeId) : ∀ (l : List (DataW H)) (d : DataW H), d ∈ l → ∀ x ∈ DataW.weights P e d, x ∈ DataW.weightsAll P e l
  | [], d, h, _, _ => by cases h
  | a :: l, d, h, x, hx => by
    rw [DataW.weightsAll]
    rcases List.mem_cons.1 h with rfl | h
    · exact List.mem_append_left _ hx
    · exact List.mem_append_right _ (weightsAll_mem P e l d h x hx)
theorem list_of {α : Type} {p : Nat → α → Prop} : ∀ n : Nat, (∀ i, i < n → ∃ y, p i y) → ∃ l : List α, l.length = n ∧ ∀ i y, l[i]? = some y → p i y
  | 0, _ => ⟨[], rfl, fun i y h => by simp at h⟩
  | n + 1, h => by
    obtain ⟨l, hl, hp⟩ := list_of n (fun i hi => h i (by omega))
    obtain ⟨y, hy⟩ := h n (by omega)
    refine ⟨l ++ [y], by simp [hl], fun i z hz => ?_⟩
    rcases Nat.lt_or_ge i n with hi | hi
    · rw [List.getElem?_append_left (by omega)] at hz
      exact hp i z hz
    · rw [List.getElem?_append_right (by omega), hl] at hz
      rcases Nat.eq_zero_or_pos (i - n) with h0 | h0
      · rw [h0] at hz
        obtain rfl : i = n := by omega
        obtain rfl : y = z := by simpa using hz
        exact hy
      · rw [List.getElem?_eq_none (by simp; omega)] at hz
        cases hz
theorem add_add (a : Addr) (i j : Nat) : (a.add i).add j = a.add (i + j) := by
  unfold Addr.add
  by_cases h1 : i = 0
  · subst h1; simp
  · by_cases h2 : j = 0
    · subst h2; simp [h1]
    · simp [h1, h2, Nat.add_assoc]
theorem cells_at {W : World} {base : Nat} {a : Addr} {n : Nat} {cs : List Value} (h : W.cells? base a n = some cs) : cs.length = n ∧ ∀ (i : Nat) u, cs[i]? = some u → W.cell? (a.add i) = some u := by
  obtain ⟨_, hn, hc⟩ := World.cells?_some h
  refine ⟨hn, fun i u hu => ?_⟩
  have hi : i < n := by
    rcases Nat.lt_or_ge i n with hi | hi
    · exact hi
    · rw [List.getElem?_eq_none (by omega)] at hu; cases hu
  rw [hc i hi, hu]
theorem Opens.slice {P : Program} {α : Type} {d : Kd α} {t e : TypeId} {G : α → Prop} (h : Opens P d e G) (hu : P.underlying t = some (.slice e)) (hc : P.cellsOf t = 1) {B : Nat} (hB : P.bytesOf e = B) :
    Opens P (Kd.slice e d) t (fun l => l.length * B ≤ 140737488351232 ∧ ∀ y ∈ l, G y) := by
  refine ⟨hc, fun {H enc W fuel cs x} hx hl => ?_⟩
  rcases Deep.open_slice hu hx with ⟨rfl, rfl⟩ | ⟨a, len, cap, m, n, D, Pl, rfl, _, hle, hm, hmm, rfl, hel⟩
  · exact ⟨[], ⟨none, 0, rfl, Nat.le_refl _, rfl, by simp, fun h => by simp at h⟩, by simp, fun y hy => by cases hy⟩
  · simp only [if_true] at hmm
    subst hmm
    have hw : (len + (m - len)) * B ≤ 140737488351232 := by
      have := hl ((len + (m - len)) * B) (by
        unfold DataW.weights
        simp only [hu, hB]
        simp)
      exact this
    have hget : ∀ i, i < len → ∃ y, (∃ c, c.length = d.sz ∧ d.K W y c ∧ ∀ j u, c[j]? = some u → W.cell? (a.add (i * d.sz + j)) = some u) ∧ G y := by
      intro i hi
      obtain ⟨cs', h1, h2⟩ := hel i (by omega)
      obtain ⟨y, hy, hg⟩ := h.open_ h2 (fun x hx => hl x (by
        unfold DataW.weights
        simp only [hu]
        refine List.mem_cons_of_mem _ (List.mem_append_left _ (weightsAll_mem P e _ (D i) ?_ x hx))
        exact List.mem_map.2 ⟨i, List.mem_range.2 hi, rfl⟩))
      obtain ⟨hn, hcell⟩ := cells_at h1
      refine ⟨y, ⟨cs', by rw [hn, h.cells], hy, fun j u hj => ?_⟩, hg⟩
      have := hcell j u hj
      rw [add_add, h.cells] at this
      exact this
    obtain ⟨l, hll, hat⟩ := list_of len hget
    refine ⟨l, ⟨some a, m, by rw [hll], by omega, rfl, by rw [hll]; unfold maxLen at hm; omega, fun _ => ⟨a, rfl, fun j p hj => (hat j p hj).1⟩⟩, ?_, fun y hy => ?_⟩
    · rw [hll]
      exact Nat.le_trans (Nat.mul_le_mul_right _ (by omega)) hw
    · obtain ⟨i, hi, rfl⟩ := List.mem_iff_getElem.1 hy
      exact (hat i _ (List.getElem?_eq_getElem hi)).2
theorem weights_agg {H : Type} {P : Program} {t : TypeId} {fs : Array Field} (hu : P.underlying t = some (.struct fs)) (xs : List (DataW H)) : DataW.weights P t (.agg xs) = DataW.weightsEach P (fs.toList.map (·.type)) xs := by
  simp [DataW.weights, hu]
theorem light_of {H : Type} {P : Program} {ts : List TypeId} {ds : List (DataW H)} (h : (DataW.weightsEach P ts ds).all (· ≤ reachBytes) = true) {j : Nat} {t : TypeId} {d : DataW H} (ht : ts[j]? = some t) (hd : ds[j]? = some d) : Light P t d := fun x hx => by
  have := List.all_eq_true.1 h x (DataW.weights_mem_each ht hd x hx)
  simpa using this
theorem Opens.iso {P : Program} {α β : Type} {d : Kd α} {t : TypeId} {G : α → Prop} (h : Opens P d t G) (f : β → α) (g : α → β) (hfg : ∀ y, f (g y) = y) : Opens P (Kd.iso d f) t (fun x => G (f x)) := by
  refine ⟨h.cells, fun {H enc W fuel cs x} hx hl => ?_⟩
  obtain ⟨y, hk, hg⟩ := h.open_ hx hl
  exact ⟨g y, show d.K W (f (g y)) cs by rw [hfg]; exact hk, by rw [hfg]; exact hg⟩
end Go.Proofs.YtmmbpbgcobmifaaDoorH
end
section
namespace Go.Proofs.YtmmbpbgcobmifaaDoorH
open Go
variable {H : Type} {enc : TypeId × Value → H}
theorem returns_and_shaped {a : Assume} {C : Checked} {os : Os} {f : FuncId} {fn : Func} {s : ChangeSpec} {conds : List PathCond} {apart fresh handsOn again : Bool} {X : World → Array Value → Prop}
    (hX : ∀ (w w' : World) (args : Array Value), w.heap = w'.heap → X w args → X w' args)
    (own : ownKnob C.prog.godebug = none) (started : os.Started) (noInit : C.prog.inits.idxOf? f = none) (hfn : C.prog.funcs[f]? = some fn)
    (witness : ∃ (w : World) (tape : Tape) (i : Input), w.os = os ∧ (w.forCall tape i).Shaped C.prog ∧ i.vars = [] ∧ Input.okWide C.prog (w.forCall tape i) .any w.heap.size f i ∧
      ((s.pre enc C.prog fn conds apart (w.forCall tape i).memory i.args ∧ X (w.forCall tape i).memory i.args) ∧ sizedMet enc C.prog fn (OpenSpec.ofChange s) apart (w.forCall tape i).memory i.args) ∧ a.holds C.prog (lone (Frame.enter C.prog f i.args .normal) [] (w.forCall tape i)))
    (contract : ∀ (W : World) (base : Nat) (args : Array Value) (ds gs : List (DataW H)) (before : List MemPlace),
      (∀ (j : Nat) t v, fn.params[j]? = some t → args[j]? = some v → Value.okWide C.prog W .any base t v) →
      DataW.Whole enc C.prog fn.params.toList s.vars apart W args.toList ds gs before →
      conds.all (PathCond.test C.prog ⟨fn.params.toList, ds, s.plain.varTypes C.prog, gs⟩) = true →
      (DataW.weightsEach C.prog (fn.params.toList ++ s.plain.varTypes C.prog) (ds ++ gs)).all (· ≤ reachBytes) = true → X W args →
      W.ShapedOpen C.prog →
      a.holds C.prog (lone (Frame.enter C.prog f args .normal) [] W) →
      Calls C.prog f args W fun e W' => ∃ v, e = .returned v ∧ s.post enc C.prog fn apart fresh handsOn again W args v W') :
    ReturnsInHanded a C os f .any (fun w args => (s.pre enc C.prog fn conds apart w args ∧ X w args) ∧ sizedMet enc C.prog fn (OpenSpec.ofChange s) apart w args) (s.post enc C.prog fn apart fresh handsOn again) := by
  refine returnsInHanded_of_calls own started noInit witness ?_
  intro w tape i _ hsh _ hok hpre hholds
  obtain ⟨_, _, _, fn', hfn', _, _, _, _, hval⟩ := hok
  have e : fn' = fn := Option.some.inj (hfn'.symm.trans hfn)
  subst e
  obtain ⟨⟨⟨ds, gs, before, hw, hc⟩, hx⟩, hz⟩ := hpre
  have hw' := DataW.Whole.of_heap (w' := w.forCall tape i) (by rfl) hw
  refine (contract (w.forCall tape i) w.heap.size i.args ds gs before hval hw' hc (hz.weights hw) (hX _ _ _ (by rfl) hx) hsh hholds).mono fun e W' ⟨v, he, hp⟩ => ?_
  subst he
  exact ChangeSpec.post_blind hp
end Go.Proofs.YtmmbpbgcobmifaaDoorH
end
section
namespace Go.Proofs.YtmmbpbgcobmifaaDoorH
set_option linter.unusedVariables false
set_option linter.unusedSimpArgs false
open Go.RowKit Go.ChangeShapes Go.WideShapes Go.ChangeAt Go.Proofs.YtmmbpbgcobmifaaDoorW.PrintWords
theorem Opens.struct3 {P : Program} {α0 α1 α2 : Type} {d0 : Kd α0} {d1 : Kd α1} {d2 : Kd α2} {t : TypeId} {f0 f1 f2 : Field} {G0 : α0 → Prop} {G1 : α1 → Prop} {G2 : α2 → Prop}
    (h0 : Opens P d0 f0.type G0) (h1 : Opens P d1 f1.type G1) (h2 : Opens P d2 f2.type G2) (hu : P.underlying t = some (.struct #[f0, f1, f2]))
    (o0 : f0.offset = 0) (o1 : f1.offset = d0.sz) (o2 : f2.offset = d0.sz + d1.sz) (hc : P.cellsOf t = d0.sz + (d1.sz + d2.sz)) :
    Opens P (Kd.pair d0 (Kd.pair d1 d2)) t (fun x => G0 x.1 ∧ G1 x.2.1 ∧ G2 x.2.2) := by
  refine ⟨hc, fun {H enc W fuel cs x} hx hl => ?_⟩
  obtain ⟨xs, n, _, rfl, hn, hlen, hf⟩ := DataW.trod_struct hu hx
  match xs, hlen with
  | [y0, y1, y2], _ =>
    have e0 := hf 0 f0 rfl
    have e1 := hf 1 f1 rfl
    have e2 := hf 2 f2 rfl
    have hw : ∀ x, x ∈ DataW.weights P t (.agg [y0.1, y1.1, y2.1]) → x ≤ reachBytes := hl
    rw [weights_agg hu] at hw
    obtain ⟨x0, k0, g0⟩ := h0.open_ e0 (fun x hx => hw x (DataW.weights_mem_each (j := 0) rfl rfl x hx))
    obtain ⟨x1, k1, g1⟩ := h1.open_ e1 (fun x hx => hw x (DataW.weights_mem_each (j := 1) rfl rfl x hx))
    obtain ⟨x2, k2, g2⟩ := h2.open_ e2 (fun x hx => hw x (DataW.weights_mem_each (j := 2) rfl rfl x hx))
    refine ⟨(x0, x1, x2), ⟨_, _, ?_, k0, _, _, rfl, k1, k2⟩, g0, g1, g2⟩
    rw [o0, o1, o2, h0.cells, h1.cells, h2.cells]
    rw [hc] at hn
    have hz : (cs.drop (d0.sz + d1.sz)).take d2.sz = cs.drop (d0.sz + d1.sz) := List.take_of_length_le (by rw [List.length_drop]; omega)
    have hdt : ∀ (a n : Nat), cs.drop a = (cs.drop a).take n ++ cs.drop (a + n) := fun a n => by rw [← List.drop_drop, List.take_append_drop]
    rw [hz, ← hdt, List.drop_zero, List.take_append_drop]
set_option maxRecDepth 100000 in
theorem lim_open {H : Type} {enc : TypeId × Value → H} {W : World} {fuel : Nat} {cs : Array Value} {x : DataW H × List MemPlace}
    (hx : DataW.trod enc Tryd.prog W 0 (fun _ => true) true fuel 23 cs.toList = some x) (hl : Light Tryd.prog 23 x.1) :
    ∃ a b c : Int, cs = #[.int .i64 a, .int .i64 b, .int .i64 c] ∧ (Lit.int .i64 a).wf = true ∧ (Lit.int .i64 b).wf = true ∧ (Lit.int .i64 c).wf = true := by
  have oi := Opens.int Tryd.underlying3 (by kernel_rfl)
  obtain ⟨⟨a, b, c⟩, hK, h1, h2, h3⟩ := (Opens.struct3 oi oi oi Tryd.underlying23 rfl rfl rfl (by kernel_rfl)).open_ hx hl
  obtain ⟨_, _, e, rfl, _, _, rfl, rfl, rfl⟩ := hK
  exact ⟨a, b, c, Array.toList_inj.1 e, h1, h2, h3⟩
end Go.Proofs.YtmmbpbgcobmifaaDoorH
end
