import Derived.Test.YtoanmbhenmlboaaDoorZExpectActsP5
import Derived.Test.YtoanmbhenmlboaaDoorZExpectActsP6
import Derived.Test.YtoanmbhenmlboaaDoorZExpectActsP1
import Derived.Deep.RegionHeld3
import Derived.Test.YtoanmbhenmlboaaDoorRows
import Derived.LaidSub
import Derived.MakeChecks
import Derived.ProofKit
import Derived.OpenShut
import Derived.LaidMore
import Derived.Deep.Slices
import Derived.SizedLaws
import Derived.HandedShaped
import Derived.Handed
section
namespace Go.Proofs.YtoanmbhenmlboaaDoor.Ph
open Go.RowKit Go.Proofs.YtoanmbhenmlboaaDoorH Go.Proofs.YtoanmbhenmlboaaDoorW.PrintWords Go.Proofs.YtoanmbhenmlboaaDoorW.PrintLast Go.Proofs.YtoanmbhenmlboaaDoorW.PrintMore Go.Proofs.YtoanmbhenmlboaaDoor.Pr
def IsX (W : World) (b : Nat) (st pa out : Int) : Prop := W.heap[b]? = some (.cells #[.int .i64 st, .int .i64 pa, .int .i64 out] 36 (0, 0))
section
variable {W : World} {b : Nat} {st pa out : Int}
theorem IsX.c0 (h : IsX W b st pa out) : W.cell? ⟨b, 0, none⟩ = some (.int .i64 st) := (blk_cell h 0).trans rfl
theorem IsX.c1 (h : IsX W b st pa out) : W.cell? ⟨b, 1, none⟩ = some (.int .i64 pa) := (blk_cell h 1).trans rfl
theorem IsX.c2 (h : IsX W b st pa out) : W.cell? ⟨b, 2, none⟩ = some (.int .i64 out) := (blk_cell h 2).trans rfl
theorem IsX.fz (h : IsX W b st pa out) (j : Nat) : W.frozen? ⟨b, j, none⟩ = false := blk_frozen h j
theorem IsX.set3 (h : IsX W b st pa out) (x y z : Int) : IsX (((W.setCell ⟨b, 0, none⟩ (.int .i64 x)).setCell ⟨b, 1, none⟩ (.int .i64 y)).setCell ⟨b, 2, none⟩ (.int .i64 z)) b x y z :=
  blk_put (blk_put (blk_put (show W.heap[b]? = _ from h) 0 (.int .i64 x) rfl) 1 (.int .i64 y) rfl) 2 (.int .i64 z) rfl
theorem IsX.s0 (h : IsX W b st pa out) (x : Int) : IsX (W.setCell ⟨b, 0, none⟩ (.int .i64 x)) b x pa out := blk_put (show W.heap[b]? = _ from h) 0 (.int .i64 x) rfl
theorem IsX.alloc (h : IsX W b st pa out) (o : Obj) : IsX (W.alloc o) b st pa out := blk_alloc h o
theorem IsX.lt (h : IsX W b st pa out) : b < W.heap.size := blk_lt h
theorem IsX.below {W' : World} (h : IsX W b st pa out) (hb : Below W.heap.size W W') : IsX W' b st pa out := blk_below h hb
theorem IsX.keep {W' : World} {g : Nat} (h : IsX W b st pa out) (hk : KeepBut W W' g none) (hne : b ≠ g) : IsX W' b st pa out := KeepBut.blk hk h hne (by simp)
end
theorem IsH.far {W : World} {b g : Nat} {st pa : Int} {lf : ByteArray} (h : IsH W b st pa lf) (hne : b ≠ g) (j : Nat) (u : Value) : IsH (W.setCell ⟨g, j, none⟩ u) b st pa lf := blk_far h hne u
theorem cell_far {W : World} {a : Addr} {v : Value} (p : Addr) (u : Value) (hne : a.block ≠ p.block) (h : W.cell? a = some v) : (W.setCell p u).cell? a = some v := (World.cell?_setCell_other W p a u (fun e => hne (by rw [e]))).trans h
theorem strOfNums_bytesOf (s : ByteArray) : strOfNums (bytesOf s) = s := by
  apply bytes_ext
  rw [strOfNums_data, bytesOf, List.map_map]
  conv => rhs; rw [← List.map_id s.data.toList]
  apply List.map_congr_left
  intro c _
  show UInt8.ofNat ((c.toNat : Int).toNat) = c
  rw [Int.toNat_natCast, UInt8.ofNat_toNat]
theorem below_setW {B b : Nat} {w W : World} (h : Below B w W) (hb : B ≤ b) (j : Nat) (v : Value) : Below B w (W.setCell ⟨b, j, none⟩ v) := h.setCell (p := ⟨b, j, none⟩) hb v
def catchpitlaw20_ExpectActs.f (l0 : List Fld) (_p : Int) (l2 : List S41) : Option Bool :=
  if (l0.length ≤ 140737488351232 ∧ ∀ y ∈ l0, y.f0.size ≤ 140737488351232 ∧ y.f1.size ≤ 140737488351232) ∧ (∀ y ∈ l2, 0 ≤ y.f0 ∧ y.f0 ≤ 255) then some true else none
set_option maxHeartbeats 8000000 in
set_option maxRecDepth 100000 in
theorem catchpitlaw20_ExpectActs.calls (A0 : Option Addr) (c0 : Nat) (l0 : List Fld) (p : Int) (A2 : Option Addr) (c2 : Nat) (l2 : List S41) (r : Bool) (w : World) (hr0 : Kd.C k71 w A0 l0.length l0) (hc0 : l0.length ≤ c0)
    (hr2 : Kd.C k41 w A2 l2.length l2) (_hc2 : l2.length ≤ c2) (hG : TabOk w) (h : catchpitlaw20_ExpectActs.f l0 p l2 = some r) :
    Calls Tryd.prog 4 #[.slice A0 l0.length c0, .int .i64 p, .slice A2 l2.length c2] w fun e w' => e = .returned (.bool r) ∧ Below w.heap.size w w' := by
  unfold catchpitlaw20_ExpectActs.f at h
  split at h
  case isFalse => cases h
  rename_i hf
  obtain ⟨⟨hn, hl1⟩, hop⟩ := hf
  have HSM := Aside0.mk (show Small1 l0 from hl1)
  have HOP := Aside0.mk hop
  injection h with h
  subst h
  have HR0 := Aside0.mk hr0
  have HC0 := Aside0.mk hc0
  have HR := Aside0.mk hr2
  have HG := Aside0.mk hG
  have hmax : l2.length ≤ 9223372036854775807 := hr2.2.1
  clear hr0 hr2 hG hc0 hl1 hop
  obtain ⟨K1, g1⟩ := ref05_Great l0 HSM.out hn
  have HGR := Aside0.mk (g1 K1 (Nat.le_refl _))
  clear g1
  go_enter Tryd.func4, Tryd.ntmps4
  go_wp2_with fail
  refine (wakes20_calls w HG.out).mono ?_
  rintro e w1 ⟨rfl, b1⟩
  have B1 := Aside0.mk b1
  have HG1 := Aside0.mk (HG.out.below b1)
  have HR01 := Aside0.mk (Kd.C_below HR0.out b1)
  clear b1
  go_wp2_with fail
  refine (catchpitref05_Great.calls K1 A0 c0 l0 _ w1 HR01.out HC0.out HG1.out HGR.out).mono ?_
  rintro e w2 ⟨rfl, b2'⟩
  have b2 := b2'.below
  clear b2'
  have B2 := Aside0.mk (B1.out.trans (b2.mono B1.out.size))
  have HG2 := Aside0.mk (HG1.out.below b2)
  have HR02 := Aside0.mk (Kd.C_below HR01.out b2)
  clear b2
  by_cases hg : 2000 < sumF l0
  · rw [decide_eq_true hg]
    clear hg
    go_wp2
    go_ret
    exact ⟨rfl, B2.out⟩
  rw [decide_eq_false hg]
  have HSF := Aside0.mk (show sumF l0 ≤ 2000 by omega)
  clear hg
  by_cases h50 : 50 < l2.length
  · have h50' : (50 : Int) < (l2.length : Int) := by omega
    go_wp2
    go_ret
    exact ⟨rfl, B2.out⟩
  have h50' : decide ((50 : Int) < (l2.length : Int)) = false := by simp; omega
  have HL50 := Aside0.mk (show l2.length ≤ 50 by omega)
  have hlen := sumF_length l0
  have hlen0 : l0.length ≤ 2000 := Nat.le_trans hlen HSF.out
  obtain ⟨K2, g2⟩ := ref05_Get l0 nExpect HSM.out (by decide) (by omega)
  have HGE := Aside0.mk (g2 K2 (Nat.le_refl _))
  have hsum := sumS_getE nExpect l0
  obtain ⟨K3, g3⟩ := ref07_Has wContinue (by decide) (getL l0 nExpect) (by have := HSF.out; omega)
  have HHA := Aside0.mk (g3 K3 (Nat.le_refl _))
  have HEX := Aside0.mk (expects_eq l0 HSM.out (by have := HSF.out; omega))
  clear h50 g2 g3 hlen hsum
  go_wp2_with fail
  by_cases hp : p < 0 ∨ 1073741824 < p
  · refine (new_bad A0 c0 l0.length p w2 hp).mono ?_
    rintro e w3 ⟨rfl, rfl⟩
    rcases hp with hp | hp
    · go_wp2
      go_ret
      exact ⟨rfl, B2.out⟩
    · have hp0 : 0 ≤ p := by omega
      go_wp2
      go_ret
      exact ⟨rfl, B2.out⟩
  have hp0 : 0 ≤ p := by omega
  have hp1 : p ≤ 1073741824 := by omega
  clear hp
  obtain ⟨has, hhas⟩ : ∃ b, hasB (itemsL (getL l0 nExpect)) wContinue = b := ⟨_, rfl⟩
  rw [hhas] at HEX HHA
  clear hhas
  refine (new_calls A0 c0 l0 p has w2 HR02.out HC0.out HG2.out HEX.out hp0 hp1).mono ?_
  rintro e w3 ⟨rfl, h3, b3⟩
  have H3 := Aside0.mk h3
  have B3 := Aside0.mk (B2.out.trans (b3.mono B2.out.size))
  have HS := Aside0.mk B2.out.size
  have HG3 := Aside0.mk (HG2.out.below b3)
  have HR03 := Aside0.mk (Kd.C_below HR02.out b3)
  clear h3 b3 HEX
  generalize w2.heap.size = b at *
  have hbd : ∀ W : World, (Instr.build 36 #[(1, .int .i64 p)]).run Tryd.prog W = .ok (.agg #[.int .i64 0, .int .i64 p, .int .i64 0]) W := fun _ => by kernel_rfl
  go_wp2_with fail
  have X4 := Aside0.mk (show IsX (w3.alloc (.cells #[.int .i64 0, .int .i64 p, .int .i64 0] 36)) w3.heap.size 0 p 0 from heap_alloc_new w3 _)
  have b4 := (Below.refl w3.heap.size w3).alloc (Nat.le_refl _) (.cells #[.int .i64 0, .int .i64 p, .int .i64 0] 36)
  have H4 := Aside0.mk (H3.out.alloc (.cells #[.int .i64 0, .int .i64 p, .int .i64 0] 36))
  have B4 := Aside0.mk (B3.out.alloc B3.out.size (.cells #[.int .i64 0, .int .i64 p, .int .i64 0] 36))
  have HG4 := Aside0.mk (HG3.out.below b4)
  have HR04 := Aside0.mk (Kd.C_below HR03.out b4)
  have HNE := Aside0.mk (Nat.ne_of_lt H3.out.lt)
  have HSX := Aside0.mk B3.out.size
  clear b4 hbd
  generalize w3.alloc (.cells #[.int .i64 0, .int .i64 p, .int .i64 0] 36) = w4 at *
  generalize w3.heap.size = bx at *
  refine (catchpitref05_Get.calls K2 A0 c0 l0 nExpect _ w4 HR04.out HC0.out HG4.out HGE.out).mono ?_
  rintro e w5 ⟨v, rfl, hR, b5⟩
  obtain ⟨A5, c5, rfl, hc5, hC5⟩ := Kd.R_reads hR
  have HR5 := Aside0.mk hC5
  have HC5 := Aside0.mk hc5
  have B5 := Aside0.mk (B4.out.trans (b5.mono B4.out.size))
  have HG5 := Aside0.mk (HG4.out.below b5)
  have X5 := Aside0.mk (X4.out.below b5)
  have H5 := Aside0.mk (H4.out.below b5 H4.out.lt)
  clear hR hC5 hc5 b5
  go_wp2_with fail
  refine (catchpitref07_Has.calls K3 wContinue A5 c5 (getL l0 nExpect) _ w5 HR5.out HC5.out HG5.out HHA.out).mono ?_
  rintro e w6 ⟨rfl, b6⟩
  have B6 := Aside0.mk (B5.out.trans (b6.mono B5.out.size))
  have HG6 := Aside0.mk (HG5.out.below b6)
  have X6 := Aside0.mk (X5.out.below b6)
  have H6 := Aside0.mk (H5.out.below b6 H5.out.lt)
  clear b6
  have k0 := X6.out.c0
  have z0 := X6.out.fz 0
  cases has with
  | true =>
    have XC := Aside0.mk (X6.out.s0 1)
    have HC := Aside0.mk (show IsH (w6.setCell ⟨bx, 0, none⟩ (.int .i64 1)) b 1 p ⟨#[]⟩ from IsH.far H6.out HNE.out 0 _)
    have BC := Aside0.mk (below_setW B6.out HSX.out 0 (.int .i64 1))
    go_upto_region 13 with (fail)
    clear k0 z0
    generalize w6.setCell ⟨bx, 0, none⟩ (.int .i64 1) = wc at *
    clear X4 H4 B4 HG4 HR04 HGR HGE HHA HR0 HR01 HR02 HR03 B2 B3 HG1 HG2 HG3 X5 H5 B5 HR5 X6 H6 B6 HG5 HG6
    go_wp2
    go_loopw [59] (fun u59 wr => ∃ (k : Nat) (st pa : Int) (lf : ByteArray) (out : Nat), k ≤ l2.length ∧ u59 = .int .i64 k ∧ Aside0 (Rel st pa lf out) ∧ Aside0 (IsH wr b st pa lf) ∧ Aside0 (IsX wr bx st pa out) ∧ Aside0 (Below w.heap.size w wr)) (fun u59 _ => l2.length - (intOf u59).toNat)
    case atStart =>
      refine ⟨0, _, p, _, 0, Nat.zero_le _, rfl, ⟨?_⟩, HC, XC, BC⟩
      refine ⟨hp0, hp1, Nat.zero_le _, fun h => ?_, fun _ => ⟨rfl, rfl⟩⟩
      exact absurd h (by decide)
    case round =>
      obtain ⟨k, st, pa, lf, out, hk, rfl, hrl, hh, hx, hb⟩ := hrel
      by_cases hlt : k < l2.length
      · obtain ⟨ad, e, hx0, hx1'⟩ := at_op (Kd.C_below HR.out hb.out) k hlt
        cases e
        have hkind := HOP.out _ (mem_getD l2 z41 k hlt)
        generalize l2.getD k z41 = x at *
        obtain ⟨hk0, hk1⟩ := hkind
        have hm : x.f0 % 3 = 0 ∨ x.f0 % 3 = 1 ∨ x.f0 % 3 = 2 := by omega
        have HH1 := Aside0.mk (hh.out.alloc (.cells #[.int .u8 x.f0, .int .i64 x.f1] 41))
        have HX1 := Aside0.mk (hx.out.alloc (.cells #[.int .u8 x.f0, .int .i64 x.f1] 41))
        have HB1 := Aside0.mk (hb.out.alloc hb.out.size (.cells #[.int .u8 x.f0, .int .i64 x.f1] 41))
        have HNO := Aside0.mk (Nat.ne_of_gt hh.out.lt)
        have y1 : (wr.alloc (.cells #[.int .u8 x.f0, .int .i64 x.f1] 41)).cell? ⟨wr.heap.size, 1, none⟩ = some (.int .i64 x.f1) := by simp
        have y0 : (wr.alloc (.cells #[.int .u8 x.f0, .int .i64 x.f1] 41)).cell? ⟨wr.heap.size, 0, none⟩ = some (.int .u8 x.f0) := by simp
        rcases hm with hm | hm | hm
        · go_wp2_with fail
          have ho := origin_calls b st pa x.f1 lf _ HH1.out
          rw [originR_fst] at ho
          have hre := refOrigin_eq st pa (out : Int) x.f1
          have R7 := Aside0.mk (hrl.out.origin x.f1)
          by_cases hbad : x.f1 < 100 ∨ 999 < x.f1
          · rw [if_pos hbad, if_pos hbad] at ho
            rw [if_pos hbad] at hre
            have HRE := Aside0.mk hre
            clear hre
            refine ho.mono ?_
            clear ho hx0 hx1' hbad y0
            rintro e w5 ⟨rfl, h5, b5⟩
            have H5 := Aside0.mk (show IsH w5 b (refO st x.f1) pa (originR st lf x.f1).2 from h5)
            have B5 := Aside0.mk (HB1.out.trans (b5.1.mono HS.out))
            have y5 := keep_cell b5.2 y1 HNO.out
            have X5 := Aside0.mk (HX1.out.keep b5.2 (Ne.symm HNE.out))
            have HG5 := Aside0.mk (HG.out.below B5.out)
            have q0 := X5.out.c0
            have q1 := X5.out.c1
            have q2 := X5.out.c2
            clear h5 b5 y1
            go_wp2_with fail
            refine (catchpitref20_Origin.calls 2 st pa (out : Int) x.f1 _ _ _ _ w5 HG5.out HRE.out).mono ?_
            rintro e w6 ⟨rfl, b6⟩
            have XA := Aside0.mk ((X5.out.below b6).alloc (.cells #[.int .i64 (refO st x.f1), .int .i64 pa, .int .i64 (out : Int)] 36))
            have HA := Aside0.mk ((H5.out.below b6 H5.out.lt).alloc (.cells #[.int .i64 (refO st x.f1), .int .i64 pa, .int .i64 (out : Int)] 36))
            have B6 := Aside0.mk (B5.out.trans (b6.mono B5.out.size))
            have BA := Aside0.mk (B6.out.alloc B6.out.size (.cells #[.int .i64 (refO st x.f1), .int .i64 pa, .int .i64 (out : Int)] 36))
            clear b6 y5 q0 q1 q2
            have X7 := Aside0.mk (XA.out.set3 (refO st x.f1) pa (out : Int))
            have H7 := Aside0.mk (IsH.far (IsH.far (IsH.far HA.out HNE.out 0 (.int .i64 (refO st x.f1))) HNE.out 1 (.int .i64 pa)) HNE.out 2 (.int .i64 (out : Int)))
            have B7 := Aside0.mk (below_setW (below_setW (below_setW BA.out HSX.out 0 (.int .i64 (refO st x.f1))) HSX.out 1 (.int .i64 pa)) HSX.out 2 (.int .i64 (out : Int)))
            have q0 := XA.out.c0
            have q1 := XA.out.c1
            have q2 := XA.out.c2
            have z0 := XA.out.fz 0
            have z1 := XA.out.fz 1
            have z2 := XA.out.fz 2
            have q7 := X7.out.c0
            have hne : (refO st x.f1 != refO st x.f1) = false := by simp
            go_upto_region 31 with (fail)
            clear q0 q1 q2 z0 z1 z2 q7 hne
            generalize ((((w6.alloc (.cells #[.int .i64 (refO st x.f1), .int .i64 pa, .int .i64 (out : Int)] 36)).setCell ⟨bx, 0, none⟩ (.int .i64 (refO st x.f1))).setCell ⟨bx, 1, none⟩ (.int .i64 pa)).setCell ⟨bx, 2, none⟩ (.int .i64 (out : Int))) = w7 at *

            have hne : ((refO st x.f1) != (refO st x.f1)) = false := by simp
            obtain ⟨rv, hrv⟩ : ∃ rv, (decide ((refO st x.f1) = 0) || decide ((refO st x.f1) = 2) && decide ((out : Int) = 25)) = rv := ⟨_, rfl⟩
            have HRV1 := Aside0.mk (R7.out.reads.trans hrv)
            have HRV2 := Aside0.mk ((refReads_eq (refO st x.f1) pa (out : Int)).trans (congrArg some hrv))
            have HIV := Aside0.mk R7.out.interims
            have HSZ := Aside0.mk R7.out.size
            have HG7 := Aside0.mk (HG.out.below B7.out)
            have hne2 : (rv != rv) = false := by simp
            have hne3 : (((out : Nat) : Int) != ((out : Nat) : Int)) = false := by simp
            clear hrv
            go_region_held3 (fun W => W.cell? ⟨bx, 0, none⟩ = some (.int .i64 (refO st x.f1)) ∧ W.cell? ⟨bx, 1, none⟩ = some (.int .i64 pa) ∧ W.cell? ⟨bx, 2, none⟩ = some (.int .i64 ((out : Nat) : Int))) (first | exact ⟨X7.out.c0, X7.out.c1, X7.out.c2⟩ | exact ⟨X8.out.c0, X8.out.c1, X8.out.c2⟩) (first
              | (go_at_call 24; refine (state_calls b (refO st x.f1) pa (originR st lf x.f1).2 _ H7.out.drew).mono ?_; rintro e w8 ⟨rfl, rfl⟩)
              | (go_at_call 25; have ho_ := reads_calls b (refO st x.f1) pa (originR st lf x.f1).2 _ H7.out.drew; rw [HRV1.out] at ho_; refine ho_.mono ?_; clear ho_; rintro e w8 ⟨rfl, rfl⟩)
              | (go_at_call 26; refine (catchpitref20_Reads.calls (refO st x.f1) pa ((out : Nat) : Int) rv _ (TabOk.drewN HG7.out 1) HRV2.out).mono ?_; rintro e w8 ⟨rfl, b8⟩; have X8 := Aside0.mk (IsX.below (W := w7.drew) X7.out b8); have H8 := Aside0.mk (IsH.below (W := w7.drew) H7.out b8 H7.out.lt); have B8 := Aside0.mk (B7.out.drew.trans (b8.mono B7.out.size)); clear b8)
              | (go_at_call 27; have ho_ := interims_calls b (refO st x.f1) pa (originR st lf x.f1).2 _ H8.out HSZ.out; rw [HIV.out] at ho_; refine ho_.mono ?_; clear ho_; rintro e w9 ⟨rfl, rfl⟩))
            go_wp2
            go_roundw
            case rel => exact ⟨k + 1, _, _, _, _, hlt, by go_num, R7, H8, X8, B8⟩
            case measure => simp [intOf]; omega
          · rw [if_neg hbad, if_neg hbad] at ho
            rw [if_neg hbad] at hre
            have HRE := Aside0.mk hre
            clear hre
            refine ho.mono ?_
            clear ho hx0 hx1' hbad y0
            rintro e w5 ⟨rfl, h5, b5⟩
            have H5 := Aside0.mk (show IsH w5 b (refO st x.f1) pa (originR st lf x.f1).2 from h5)
            have B5 := Aside0.mk (HB1.out.trans (b5.1.mono HS.out))
            have y5 := keep_cell b5.2 y1 HNO.out
            have X5 := Aside0.mk (HX1.out.keep b5.2 (Ne.symm HNE.out))
            have HG5 := Aside0.mk (HG.out.below B5.out)
            have q0 := X5.out.c0
            have q1 := X5.out.c1
            have q2 := X5.out.c2
            clear h5 b5 y1
            go_wp2_with fail
            refine (catchpitref20_Origin.calls 2 st pa (out : Int) x.f1 _ _ _ _ w5 HG5.out HRE.out).mono ?_
            rintro e w6 ⟨rfl, b6⟩
            have XA := Aside0.mk ((X5.out.below b6).alloc (.cells #[.int .i64 (refO st x.f1), .int .i64 pa, .int .i64 (out : Int)] 36))
            have HA := Aside0.mk ((H5.out.below b6 H5.out.lt).alloc (.cells #[.int .i64 (refO st x.f1), .int .i64 pa, .int .i64 (out : Int)] 36))
            have B6 := Aside0.mk (B5.out.trans (b6.mono B5.out.size))
            have BA := Aside0.mk (B6.out.alloc B6.out.size (.cells #[.int .i64 (refO st x.f1), .int .i64 pa, .int .i64 (out : Int)] 36))
            clear b6 y5 q0 q1 q2
            have X7 := Aside0.mk (XA.out.set3 (refO st x.f1) pa (out : Int))
            have H7 := Aside0.mk (IsH.far (IsH.far (IsH.far HA.out HNE.out 0 (.int .i64 (refO st x.f1))) HNE.out 1 (.int .i64 pa)) HNE.out 2 (.int .i64 (out : Int)))
            have B7 := Aside0.mk (below_setW (below_setW (below_setW BA.out HSX.out 0 (.int .i64 (refO st x.f1))) HSX.out 1 (.int .i64 pa)) HSX.out 2 (.int .i64 (out : Int)))
            have q0 := XA.out.c0
            have q1 := XA.out.c1
            have q2 := XA.out.c2
            have z0 := XA.out.fz 0
            have z1 := XA.out.fz 1
            have z2 := XA.out.fz 2
            have q7 := X7.out.c0
            have hne : (refO st x.f1 != refO st x.f1) = false := by simp
            go_upto_region 31 with (fail)
            clear q0 q1 q2 z0 z1 z2 q7 hne
            generalize ((((w6.alloc (.cells #[.int .i64 (refO st x.f1), .int .i64 pa, .int .i64 (out : Int)] 36)).setCell ⟨bx, 0, none⟩ (.int .i64 (refO st x.f1))).setCell ⟨bx, 1, none⟩ (.int .i64 pa)).setCell ⟨bx, 2, none⟩ (.int .i64 (out : Int))) = w7 at *

            have hne : ((refO st x.f1) != (refO st x.f1)) = false := by simp
            obtain ⟨rv, hrv⟩ : ∃ rv, (decide ((refO st x.f1) = 0) || decide ((refO st x.f1) = 2) && decide ((out : Int) = 25)) = rv := ⟨_, rfl⟩
            have HRV1 := Aside0.mk (R7.out.reads.trans hrv)
            have HRV2 := Aside0.mk ((refReads_eq (refO st x.f1) pa (out : Int)).trans (congrArg some hrv))
            have HIV := Aside0.mk R7.out.interims
            have HSZ := Aside0.mk R7.out.size
            have HG7 := Aside0.mk (HG.out.below B7.out)
            have hne2 : (rv != rv) = false := by simp
            have hne3 : (((out : Nat) : Int) != ((out : Nat) : Int)) = false := by simp
            clear hrv
            go_region_held3 (fun W => W.cell? ⟨bx, 0, none⟩ = some (.int .i64 (refO st x.f1)) ∧ W.cell? ⟨bx, 1, none⟩ = some (.int .i64 pa) ∧ W.cell? ⟨bx, 2, none⟩ = some (.int .i64 ((out : Nat) : Int))) (first | exact ⟨X7.out.c0, X7.out.c1, X7.out.c2⟩ | exact ⟨X8.out.c0, X8.out.c1, X8.out.c2⟩) (first
              | (go_at_call 24; refine (state_calls b (refO st x.f1) pa (originR st lf x.f1).2 _ H7.out.drew).mono ?_; rintro e w8 ⟨rfl, rfl⟩)
              | (go_at_call 25; have ho_ := reads_calls b (refO st x.f1) pa (originR st lf x.f1).2 _ H7.out.drew; rw [HRV1.out] at ho_; refine ho_.mono ?_; clear ho_; rintro e w8 ⟨rfl, rfl⟩)
              | (go_at_call 26; refine (catchpitref20_Reads.calls (refO st x.f1) pa ((out : Nat) : Int) rv _ (TabOk.drewN HG7.out 1) HRV2.out).mono ?_; rintro e w8 ⟨rfl, b8⟩; have X8 := Aside0.mk (IsX.below (W := w7.drew) X7.out b8); have H8 := Aside0.mk (IsH.below (W := w7.drew) H7.out b8 H7.out.lt); have B8 := Aside0.mk (B7.out.drew.trans (b8.mono B7.out.size)); clear b8)
              | (go_at_call 27; have ho_ := interims_calls b (refO st x.f1) pa (originR st lf x.f1).2 _ H8.out HSZ.out; rw [HIV.out] at ho_; refine ho_.mono ?_; clear ho_; rintro e w9 ⟨rfl, rfl⟩))
            go_wp2
            go_roundw
            case rel => exact ⟨k + 1, _, _, _, _, hlt, by go_num, R7, H8, X8, B8⟩
            case measure => simp [intOf]; omega
        · have q0 := HX1.out.c0
          have q1 := HX1.out.c1
          have q2 := HX1.out.c2
          have HP := Aside0.mk (⟨hrl.out.p0, hrl.out.p1⟩ : 0 ≤ pa ∧ pa ≤ 1073741824)
          have R7 := Aside0.mk (hrl.out.tick x.f1)
          have HNX := Aside0.mk (Nat.ne_of_gt hx.out.lt)
          go_wp2_with fail
          refine (catchpitref20_Tick.calls 1 st pa (out : Int) x.f1 _ _ _ _ (HG.out.below HB1.out) (refTick_eq st pa (out : Int) x.f1 HP.out)).mono ?_
          rintro e w5 ⟨rfl, b5⟩
          have X5 := Aside0.mk (HX1.out.below b5)
          have H5 := Aside0.mk (HH1.out.below b5 HH1.out.lt)
          have B5 := Aside0.mk (HB1.out.trans (b5.mono HB1.out.size))
          have y5 := pw_cell_below b5 y1
          clear b5 y1 y0 q0 q1 q2 hx0 hx1'
          have X6 := Aside0.mk (X5.out.set3 (refT st pa x.f1).1 (refT st pa x.f1).2 (out : Int))
          have H6 := Aside0.mk (IsH.far (IsH.far (IsH.far H5.out HNE.out 0 (.int .i64 (refT st pa x.f1).1)) HNE.out 1 (.int .i64 (refT st pa x.f1).2)) HNE.out 2 (.int .i64 (out : Int)))
          have B6 := Aside0.mk (below_setW (below_setW (below_setW B5.out HSX.out 0 (.int .i64 (refT st pa x.f1).1)) HSX.out 1 (.int .i64 (refT st pa x.f1).2)) HSX.out 2 (.int .i64 (out : Int)))
          have y6 := cell_far ⟨bx, 2, none⟩ (.int .i64 (out : Int)) HNX.out (cell_far ⟨bx, 1, none⟩ (.int .i64 (refT st pa x.f1).2) HNX.out (cell_far ⟨bx, 0, none⟩ (.int .i64 (refT st pa x.f1).1) HNX.out y5))
          have q0 := X5.out.c0
          have q1 := X5.out.c1
          have q2 := X5.out.c2
          have z0 := X5.out.fz 0
          have z1 := X5.out.fz 1
          have z2 := X5.out.fz 2
          go_upto_region 29 with (fail)
          clear q0 q1 q2 z0 z1 z2 y5
          generalize (((w5.setCell ⟨bx, 0, none⟩ (.int .i64 (refT st pa x.f1).1)).setCell ⟨bx, 1, none⟩ (.int .i64 (refT st pa x.f1).2)).setCell ⟨bx, 2, none⟩ (.int .i64 (out : Int))) = w6 at *
          have hnt : ((refT st pa x.f1).1 != (refT st pa x.f1).1) = false := by simp
          go_region_held3 (fun W => W.cell? ⟨bx, 0, none⟩ = some (.int .i64 (refT st pa x.f1).1) ∧ W.cell? ⟨wr.heap.size, 1, none⟩ = some (.int .i64 x.f1)) (first | exact ⟨X6.out.c0, y6⟩ | exact ⟨X7.out.c0, y7⟩) (first
            | (go_at_call 15; have ho_ := tick_calls b st pa x.f1 lf _ H6.out.drew HP.out; rw [(tickR_ref st pa x.f1 lf HP.out.1).1, (tickR_ref st pa x.f1 lf HP.out.1).2] at ho_; refine ho_.mono ?_; clear ho_; rintro e w7 ⟨rfl, h7, b7⟩; have X7 := Aside0.mk (IsX.keep (W := w6.drew) X6.out b7.2 (Ne.symm HNE.out)); have H7 := Aside0.mk (show IsH w7 b (refT st pa x.f1).1 (refT st pa x.f1).2 (tickR st pa lf x.f1).2.2 from h7); have B7 := Aside0.mk (B6.out.drew.trans (b7.1.mono HS.out)); have y7 := keep_cell (w := w6.drew) b7.2 y6 HNO.out; clear h7 b7))
          go_upto_region 31 with (fail)

          have hne : ((refT st pa x.f1).1 != (refT st pa x.f1).1) = false := by simp
          obtain ⟨rv, hrv⟩ : ∃ rv, (decide ((refT st pa x.f1).1 = 0) || decide ((refT st pa x.f1).1 = 2) && decide ((out : Int) = 25)) = rv := ⟨_, rfl⟩
          have HRV1 := Aside0.mk (R7.out.reads.trans hrv)
          have HRV2 := Aside0.mk ((refReads_eq (refT st pa x.f1).1 (refT st pa x.f1).2 (out : Int)).trans (congrArg some hrv))
          have HIV := Aside0.mk R7.out.interims
          have HSZ := Aside0.mk R7.out.size
          have HG7 := Aside0.mk (HG.out.below B7.out)
          have hne2 : (rv != rv) = false := by simp
          have hne3 : (((out : Nat) : Int) != ((out : Nat) : Int)) = false := by simp
          clear hrv
          go_region_held3 (fun W => W.cell? ⟨bx, 0, none⟩ = some (.int .i64 (refT st pa x.f1).1) ∧ W.cell? ⟨bx, 1, none⟩ = some (.int .i64 (refT st pa x.f1).2) ∧ W.cell? ⟨bx, 2, none⟩ = some (.int .i64 ((out : Nat) : Int))) (first | exact ⟨X7.out.c0, X7.out.c1, X7.out.c2⟩ | exact ⟨X8.out.c0, X8.out.c1, X8.out.c2⟩) (first
            | (go_at_call 24; refine (state_calls b (refT st pa x.f1).1 (refT st pa x.f1).2 (tickR st pa lf x.f1).2.2 _ H7.out.drew).mono ?_; rintro e w8 ⟨rfl, rfl⟩)
            | (go_at_call 25; have ho_ := reads_calls b (refT st pa x.f1).1 (refT st pa x.f1).2 (tickR st pa lf x.f1).2.2 _ H7.out.drew; rw [HRV1.out] at ho_; refine ho_.mono ?_; clear ho_; rintro e w8 ⟨rfl, rfl⟩)
            | (go_at_call 26; refine (catchpitref20_Reads.calls (refT st pa x.f1).1 (refT st pa x.f1).2 ((out : Nat) : Int) rv _ (TabOk.drewN HG7.out 1) HRV2.out).mono ?_; rintro e w8 ⟨rfl, b8⟩; have X8 := Aside0.mk (IsX.below (W := w7.drew) X7.out b8); have H8 := Aside0.mk (IsH.below (W := w7.drew) H7.out b8 H7.out.lt); have B8 := Aside0.mk (B7.out.drew.trans (b8.mono B7.out.size)); clear b8)
            | (go_at_call 27; have ho_ := interims_calls b (refT st pa x.f1).1 (refT st pa x.f1).2 (tickR st pa lf x.f1).2.2 _ H8.out HSZ.out; rw [HIV.out] at ho_; refine ho_.mono ?_; clear ho_; rintro e w9 ⟨rfl, rfl⟩))
          go_wp2
          go_roundw
          case rel => exact ⟨k + 1, _, _, _, _, hlt, by go_num, R7, H8, X8, B8⟩
          case measure => simp [intOf]; omega
        · have q0 := HX1.out.c0
          have q1 := HX1.out.c1
          have q2 := HX1.out.c2
          have R7' := hrl.out.outR x.f1
          have hon := hrl.out.outN x.f1
          have hos := hrl.out.outS x.f1
          have hof := refOut_eq st pa x.f1 out hrl.out.o
          have HSL := Aside0.mk hrl.out.size
          obtain ⟨o2, ho2⟩ : ∃ o2 : Nat, out + refN st out x.f1 = o2 := ⟨_, rfl⟩
          rw [ho2] at R7' hos hof
          obtain ⟨m, hm2⟩ : ∃ m, refN st out x.f1 = m := ⟨_, rfl⟩
          rw [hm2] at hon
          obtain ⟨tx, htx⟩ : ∃ t, interimS.extract out o2 = t := ⟨_, rfl⟩
          rw [htx] at hos hof
          have R7 := Aside0.mk R7'
          have HON := Aside0.mk hon
          have HOS := Aside0.mk hos
          have HOF := Aside0.mk hof
          clear hm2 ho2 htx R7' hon hos hof
          have HNX := Aside0.mk (Nat.ne_of_gt hx.out.lt)
          go_wp2_with fail
          refine (catchpitref20_Out.calls 1 st pa (out : Int) x.f1 _ _ _ _ _ (HG.out.below HB1.out) HOF.out).mono ?_
          rintro e w5 ⟨rfl, b5⟩
          have X5 := Aside0.mk ((HX1.out.below b5).alloc (.cells #[.int .i64 st, .int .i64 pa, .int .i64 (o2 : Int)] 36))
          have H5 := Aside0.mk ((HH1.out.below b5 HH1.out.lt).alloc (.cells #[.int .i64 st, .int .i64 pa, .int .i64 (o2 : Int)] 36))
          have b5w := HB1.out.trans (b5.mono HB1.out.size)
          have B5 := Aside0.mk (b5w.alloc b5w.size (.cells #[.int .i64 st, .int .i64 pa, .int .i64 (o2 : Int)] 36))
          have y5 := pw_cell_below (below_alloc (Below.refl w5.heap.size w5) (.cells #[.int .i64 st, .int .i64 pa, .int .i64 (o2 : Int)] 36)) (pw_cell_below b5 y1)
          clear b5 b5w y1 y0 q0 q1 q2 hx0 hx1'
          have X6 := Aside0.mk (X5.out.set3 st pa (o2 : Int))
          have H6 := Aside0.mk (IsH.far (IsH.far (IsH.far H5.out HNE.out 0 (.int .i64 st)) HNE.out 1 (.int .i64 pa)) HNE.out 2 (.int .i64 (o2 : Int)))
          have B6 := Aside0.mk (below_setW (below_setW (below_setW B5.out HSX.out 0 (.int .i64 st)) HSX.out 1 (.int .i64 pa)) HSX.out 2 (.int .i64 (o2 : Int)))
          have y6 := cell_far ⟨bx, 2, none⟩ (.int .i64 (o2 : Int)) HNX.out (cell_far ⟨bx, 1, none⟩ (.int .i64 pa) HNX.out (cell_far ⟨bx, 0, none⟩ (.int .i64 st) HNX.out y5))
          have q0 := X5.out.c0
          have q1 := X5.out.c1
          have q2 := X5.out.c2
          have z0 := X5.out.fz 0
          have z1 := X5.out.fz 1
          have z2 := X5.out.fz 2
          go_upto_region 19 with (fail)
          clear q0 q1 q2 z0 z1 z2 y5
          generalize ((((w5.alloc (.cells #[.int .i64 st, .int .i64 pa, .int .i64 (o2 : Int)] 36)).setCell ⟨bx, 0, none⟩ (.int .i64 st)).setCell ⟨bx, 1, none⟩ (.int .i64 pa)).setCell ⟨bx, 2, none⟩ (.int .i64 (o2 : Int))) = w6 at *
          go_wp2_with fail
          have ho := out_calls b st pa x.f1 lf w6 H6.out HSL.out
          rw [HON.out, HOS.out] at ho
          refine ho.mono ?_
          clear ho
          rintro e w7 ⟨c7, rfl, hc7, h7, b7⟩
          have H7 := Aside0.mk h7
          have X7 := Aside0.mk (X6.out.keep b7.2 (Ne.symm HNE.out))
          have B7 := Aside0.mk (B6.out.trans (b7.1.mono HS.out))
          have hsz : tx.size = m := by
            rw [← HOS.out, outS_size, HON.out]
          have hcv := run_convert_bytes_arg (P := Tryd.prog) w7 23 5 Tryd.underlying23 Tryd.underlying5 w6.heap.size 0 m c7 (bytesOf tx) (by rw [bytesOf_length, hsz]) (fun i hi => by
            rw [Nat.zero_add, hc7 i hi, ← rd_bytesOf]
            unfold rd
            rw [Int.toNat_natCast]) 9 Tryd.underlying9
          rw [strOfNums_bytesOf] at hcv
          clear hc7 h7 b7 hsz
          have hnt : (tx.toList != tx.toList) = false := by simp
          go_upto_region 31 with (fail)
          clear hcv hnt

          have hne : (st != st) = false := by simp
          obtain ⟨rv, hrv⟩ : ∃ rv, (decide (st = 0) || decide (st = 2) && decide ((o2 : Int) = 25)) = rv := ⟨_, rfl⟩
          have HRV1 := Aside0.mk (R7.out.reads.trans hrv)
          have HRV2 := Aside0.mk ((refReads_eq st pa (o2 : Int)).trans (congrArg some hrv))
          have HIV := Aside0.mk R7.out.interims
          have HSZ := Aside0.mk R7.out.size
          have HG7 := Aside0.mk (HG.out.below B7.out)
          have hne2 : (rv != rv) = false := by simp
          have hne3 : (((o2 : Nat) : Int) != ((o2 : Nat) : Int)) = false := by simp
          clear hrv
          go_region_held3 (fun W => W.cell? ⟨bx, 0, none⟩ = some (.int .i64 st) ∧ W.cell? ⟨bx, 1, none⟩ = some (.int .i64 pa) ∧ W.cell? ⟨bx, 2, none⟩ = some (.int .i64 ((o2 : Nat) : Int))) (first | exact ⟨X7.out.c0, X7.out.c1, X7.out.c2⟩ | exact ⟨X8.out.c0, X8.out.c1, X8.out.c2⟩) (first
            | (go_at_call 24; refine (state_calls b st pa (outR lf x.f1) _ H7.out.drew).mono ?_; rintro e w8 ⟨rfl, rfl⟩)
            | (go_at_call 25; have ho_ := reads_calls b st pa (outR lf x.f1) _ H7.out.drew; rw [HRV1.out] at ho_; refine ho_.mono ?_; clear ho_; rintro e w8 ⟨rfl, rfl⟩)
            | (go_at_call 26; refine (catchpitref20_Reads.calls st pa ((o2 : Nat) : Int) rv _ (TabOk.drewN HG7.out 1) HRV2.out).mono ?_; rintro e w8 ⟨rfl, b8⟩; have X8 := Aside0.mk (IsX.below (W := w7.drew) X7.out b8); have H8 := Aside0.mk (IsH.below (W := w7.drew) H7.out b8 H7.out.lt); have B8 := Aside0.mk (B7.out.drew.trans (b8.mono B7.out.size)); clear b8)
            | (go_at_call 27; have ho_ := interims_calls b st pa (outR lf x.f1) _ H8.out HSZ.out; rw [HIV.out] at ho_; refine ho_.mono ?_; clear ho_; rintro e w9 ⟨rfl, rfl⟩))
          go_wp2
          go_roundw
          case rel => exact ⟨k + 1, _, _, _, _, hlt, by go_num, R7, H8, X8, B8⟩
          case measure => simp [intOf]; omega
      · go_wp2
        go_ret
        exact ⟨rfl, hb.out⟩
  | false =>
    have XC := X6
    have HC := Aside0.mk (show IsH w6 b 0 p ⟨#[]⟩ from H6.out)
    have BC := B6
    clear k0 z0
    go_upto_region 13 with (fail)
    clear X4 H4 B4 HG4 HR04 HGR HGE HHA HR0 HR01 HR02 HR03 B2 B3 HG1 HG2 HG3 X5 H5 B5 HR5 X6 H6 B6 HG5 HG6
    go_wp2
    go_loopw [59] (fun u59 wr => ∃ (k : Nat) (st pa : Int) (lf : ByteArray) (out : Nat), k ≤ l2.length ∧ u59 = .int .i64 k ∧ Aside0 (Rel st pa lf out) ∧ Aside0 (IsH wr b st pa lf) ∧ Aside0 (IsX wr bx st pa out) ∧ Aside0 (Below w.heap.size w wr)) (fun u59 _ => l2.length - (intOf u59).toNat)
    case atStart =>
      refine ⟨0, _, p, _, 0, Nat.zero_le _, rfl, ⟨?_⟩, HC, XC, BC⟩
      refine ⟨hp0, hp1, Nat.zero_le _, fun h => ?_, fun _ => ⟨rfl, rfl⟩⟩
      exact absurd h (by decide)
    case round =>
      obtain ⟨k, st, pa, lf, out, hk, rfl, hrl, hh, hx, hb⟩ := hrel
      by_cases hlt : k < l2.length
      · obtain ⟨ad, e, hx0, hx1'⟩ := at_op (Kd.C_below HR.out hb.out) k hlt
        cases e
        have hkind := HOP.out _ (mem_getD l2 z41 k hlt)
        generalize l2.getD k z41 = x at *
        obtain ⟨hk0, hk1⟩ := hkind
        have hm : x.f0 % 3 = 0 ∨ x.f0 % 3 = 1 ∨ x.f0 % 3 = 2 := by omega
        have HH1 := Aside0.mk (hh.out.alloc (.cells #[.int .u8 x.f0, .int .i64 x.f1] 41))
        have HX1 := Aside0.mk (hx.out.alloc (.cells #[.int .u8 x.f0, .int .i64 x.f1] 41))
        have HB1 := Aside0.mk (hb.out.alloc hb.out.size (.cells #[.int .u8 x.f0, .int .i64 x.f1] 41))
        have HNO := Aside0.mk (Nat.ne_of_gt hh.out.lt)
        have y1 : (wr.alloc (.cells #[.int .u8 x.f0, .int .i64 x.f1] 41)).cell? ⟨wr.heap.size, 1, none⟩ = some (.int .i64 x.f1) := by simp
        have y0 : (wr.alloc (.cells #[.int .u8 x.f0, .int .i64 x.f1] 41)).cell? ⟨wr.heap.size, 0, none⟩ = some (.int .u8 x.f0) := by simp
        rcases hm with hm | hm | hm
        · go_wp2_with fail
          have ho := origin_calls b st pa x.f1 lf _ HH1.out
          rw [originR_fst] at ho
          have hre := refOrigin_eq st pa (out : Int) x.f1
          have R7 := Aside0.mk (hrl.out.origin x.f1)
          by_cases hbad : x.f1 < 100 ∨ 999 < x.f1
          · rw [if_pos hbad, if_pos hbad] at ho
            rw [if_pos hbad] at hre
            have HRE := Aside0.mk hre
            clear hre
            refine ho.mono ?_
            clear ho hx0 hx1' hbad y0
            rintro e w5 ⟨rfl, h5, b5⟩
            have H5 := Aside0.mk (show IsH w5 b (refO st x.f1) pa (originR st lf x.f1).2 from h5)
            have B5 := Aside0.mk (HB1.out.trans (b5.1.mono HS.out))
            have y5 := keep_cell b5.2 y1 HNO.out
            have X5 := Aside0.mk (HX1.out.keep b5.2 (Ne.symm HNE.out))
            have HG5 := Aside0.mk (HG.out.below B5.out)
            have q0 := X5.out.c0
            have q1 := X5.out.c1
            have q2 := X5.out.c2
            clear h5 b5 y1
            go_wp2_with fail
            refine (catchpitref20_Origin.calls 2 st pa (out : Int) x.f1 _ _ _ _ w5 HG5.out HRE.out).mono ?_
            rintro e w6 ⟨rfl, b6⟩
            have XA := Aside0.mk ((X5.out.below b6).alloc (.cells #[.int .i64 (refO st x.f1), .int .i64 pa, .int .i64 (out : Int)] 36))
            have HA := Aside0.mk ((H5.out.below b6 H5.out.lt).alloc (.cells #[.int .i64 (refO st x.f1), .int .i64 pa, .int .i64 (out : Int)] 36))
            have B6 := Aside0.mk (B5.out.trans (b6.mono B5.out.size))
            have BA := Aside0.mk (B6.out.alloc B6.out.size (.cells #[.int .i64 (refO st x.f1), .int .i64 pa, .int .i64 (out : Int)] 36))
            clear b6 y5 q0 q1 q2
            have X7 := Aside0.mk (XA.out.set3 (refO st x.f1) pa (out : Int))
            have H7 := Aside0.mk (IsH.far (IsH.far (IsH.far HA.out HNE.out 0 (.int .i64 (refO st x.f1))) HNE.out 1 (.int .i64 pa)) HNE.out 2 (.int .i64 (out : Int)))
            have B7 := Aside0.mk (below_setW (below_setW (below_setW BA.out HSX.out 0 (.int .i64 (refO st x.f1))) HSX.out 1 (.int .i64 pa)) HSX.out 2 (.int .i64 (out : Int)))
            have q0 := XA.out.c0
            have q1 := XA.out.c1
            have q2 := XA.out.c2
            have z0 := XA.out.fz 0
            have z1 := XA.out.fz 1
            have z2 := XA.out.fz 2
            have q7 := X7.out.c0
            have hne : (refO st x.f1 != refO st x.f1) = false := by simp
            go_upto_region 31 with (fail)
            clear q0 q1 q2 z0 z1 z2 q7 hne
            generalize ((((w6.alloc (.cells #[.int .i64 (refO st x.f1), .int .i64 pa, .int .i64 (out : Int)] 36)).setCell ⟨bx, 0, none⟩ (.int .i64 (refO st x.f1))).setCell ⟨bx, 1, none⟩ (.int .i64 pa)).setCell ⟨bx, 2, none⟩ (.int .i64 (out : Int))) = w7 at *

            have hne : ((refO st x.f1) != (refO st x.f1)) = false := by simp
            obtain ⟨rv, hrv⟩ : ∃ rv, (decide ((refO st x.f1) = 0) || decide ((refO st x.f1) = 2) && decide ((out : Int) = 25)) = rv := ⟨_, rfl⟩
            have HRV1 := Aside0.mk (R7.out.reads.trans hrv)
            have HRV2 := Aside0.mk ((refReads_eq (refO st x.f1) pa (out : Int)).trans (congrArg some hrv))
            have HIV := Aside0.mk R7.out.interims
            have HSZ := Aside0.mk R7.out.size
            have HG7 := Aside0.mk (HG.out.below B7.out)
            have hne2 : (rv != rv) = false := by simp
            have hne3 : (((out : Nat) : Int) != ((out : Nat) : Int)) = false := by simp
            clear hrv
            go_region_held3 (fun W => W.cell? ⟨bx, 0, none⟩ = some (.int .i64 (refO st x.f1)) ∧ W.cell? ⟨bx, 1, none⟩ = some (.int .i64 pa) ∧ W.cell? ⟨bx, 2, none⟩ = some (.int .i64 ((out : Nat) : Int))) (first | exact ⟨X7.out.c0, X7.out.c1, X7.out.c2⟩ | exact ⟨X8.out.c0, X8.out.c1, X8.out.c2⟩) (first
              | (go_at_call 24; refine (state_calls b (refO st x.f1) pa (originR st lf x.f1).2 _ H7.out.drew).mono ?_; rintro e w8 ⟨rfl, rfl⟩)
              | (go_at_call 25; have ho_ := reads_calls b (refO st x.f1) pa (originR st lf x.f1).2 _ H7.out.drew; rw [HRV1.out] at ho_; refine ho_.mono ?_; clear ho_; rintro e w8 ⟨rfl, rfl⟩)
              | (go_at_call 26; refine (catchpitref20_Reads.calls (refO st x.f1) pa ((out : Nat) : Int) rv _ (TabOk.drewN HG7.out 1) HRV2.out).mono ?_; rintro e w8 ⟨rfl, b8⟩; have X8 := Aside0.mk (IsX.below (W := w7.drew) X7.out b8); have H8 := Aside0.mk (IsH.below (W := w7.drew) H7.out b8 H7.out.lt); have B8 := Aside0.mk (B7.out.drew.trans (b8.mono B7.out.size)); clear b8)
              | (go_at_call 27; have ho_ := interims_calls b (refO st x.f1) pa (originR st lf x.f1).2 _ H8.out HSZ.out; rw [HIV.out] at ho_; refine ho_.mono ?_; clear ho_; rintro e w9 ⟨rfl, rfl⟩))
            go_wp2
            go_roundw
            case rel => exact ⟨k + 1, _, _, _, _, hlt, by go_num, R7, H8, X8, B8⟩
            case measure => simp [intOf]; omega
          · rw [if_neg hbad, if_neg hbad] at ho
            rw [if_neg hbad] at hre
            have HRE := Aside0.mk hre
            clear hre
            refine ho.mono ?_
            clear ho hx0 hx1' hbad y0
            rintro e w5 ⟨rfl, h5, b5⟩
            have H5 := Aside0.mk (show IsH w5 b (refO st x.f1) pa (originR st lf x.f1).2 from h5)
            have B5 := Aside0.mk (HB1.out.trans (b5.1.mono HS.out))
            have y5 := keep_cell b5.2 y1 HNO.out
            have X5 := Aside0.mk (HX1.out.keep b5.2 (Ne.symm HNE.out))
            have HG5 := Aside0.mk (HG.out.below B5.out)
            have q0 := X5.out.c0
            have q1 := X5.out.c1
            have q2 := X5.out.c2
            clear h5 b5 y1
            go_wp2_with fail
            refine (catchpitref20_Origin.calls 2 st pa (out : Int) x.f1 _ _ _ _ w5 HG5.out HRE.out).mono ?_
            rintro e w6 ⟨rfl, b6⟩
            have XA := Aside0.mk ((X5.out.below b6).alloc (.cells #[.int .i64 (refO st x.f1), .int .i64 pa, .int .i64 (out : Int)] 36))
            have HA := Aside0.mk ((H5.out.below b6 H5.out.lt).alloc (.cells #[.int .i64 (refO st x.f1), .int .i64 pa, .int .i64 (out : Int)] 36))
            have B6 := Aside0.mk (B5.out.trans (b6.mono B5.out.size))
            have BA := Aside0.mk (B6.out.alloc B6.out.size (.cells #[.int .i64 (refO st x.f1), .int .i64 pa, .int .i64 (out : Int)] 36))
            clear b6 y5 q0 q1 q2
            have X7 := Aside0.mk (XA.out.set3 (refO st x.f1) pa (out : Int))
            have H7 := Aside0.mk (IsH.far (IsH.far (IsH.far HA.out HNE.out 0 (.int .i64 (refO st x.f1))) HNE.out 1 (.int .i64 pa)) HNE.out 2 (.int .i64 (out : Int)))
            have B7 := Aside0.mk (below_setW (below_setW (below_setW BA.out HSX.out 0 (.int .i64 (refO st x.f1))) HSX.out 1 (.int .i64 pa)) HSX.out 2 (.int .i64 (out : Int)))
            have q0 := XA.out.c0
            have q1 := XA.out.c1
            have q2 := XA.out.c2
            have z0 := XA.out.fz 0
            have z1 := XA.out.fz 1
            have z2 := XA.out.fz 2
            have q7 := X7.out.c0
            have hne : (refO st x.f1 != refO st x.f1) = false := by simp
            go_upto_region 31 with (fail)
            clear q0 q1 q2 z0 z1 z2 q7 hne
            generalize ((((w6.alloc (.cells #[.int .i64 (refO st x.f1), .int .i64 pa, .int .i64 (out : Int)] 36)).setCell ⟨bx, 0, none⟩ (.int .i64 (refO st x.f1))).setCell ⟨bx, 1, none⟩ (.int .i64 pa)).setCell ⟨bx, 2, none⟩ (.int .i64 (out : Int))) = w7 at *

            have hne : ((refO st x.f1) != (refO st x.f1)) = false := by simp
            obtain ⟨rv, hrv⟩ : ∃ rv, (decide ((refO st x.f1) = 0) || decide ((refO st x.f1) = 2) && decide ((out : Int) = 25)) = rv := ⟨_, rfl⟩
            have HRV1 := Aside0.mk (R7.out.reads.trans hrv)
            have HRV2 := Aside0.mk ((refReads_eq (refO st x.f1) pa (out : Int)).trans (congrArg some hrv))
            have HIV := Aside0.mk R7.out.interims
            have HSZ := Aside0.mk R7.out.size
            have HG7 := Aside0.mk (HG.out.below B7.out)
            have hne2 : (rv != rv) = false := by simp
            have hne3 : (((out : Nat) : Int) != ((out : Nat) : Int)) = false := by simp
            clear hrv
            go_region_held3 (fun W => W.cell? ⟨bx, 0, none⟩ = some (.int .i64 (refO st x.f1)) ∧ W.cell? ⟨bx, 1, none⟩ = some (.int .i64 pa) ∧ W.cell? ⟨bx, 2, none⟩ = some (.int .i64 ((out : Nat) : Int))) (first | exact ⟨X7.out.c0, X7.out.c1, X7.out.c2⟩ | exact ⟨X8.out.c0, X8.out.c1, X8.out.c2⟩) (first
              | (go_at_call 24; refine (state_calls b (refO st x.f1) pa (originR st lf x.f1).2 _ H7.out.drew).mono ?_; rintro e w8 ⟨rfl, rfl⟩)
              | (go_at_call 25; have ho_ := reads_calls b (refO st x.f1) pa (originR st lf x.f1).2 _ H7.out.drew; rw [HRV1.out] at ho_; refine ho_.mono ?_; clear ho_; rintro e w8 ⟨rfl, rfl⟩)
              | (go_at_call 26; refine (catchpitref20_Reads.calls (refO st x.f1) pa ((out : Nat) : Int) rv _ (TabOk.drewN HG7.out 1) HRV2.out).mono ?_; rintro e w8 ⟨rfl, b8⟩; have X8 := Aside0.mk (IsX.below (W := w7.drew) X7.out b8); have H8 := Aside0.mk (IsH.below (W := w7.drew) H7.out b8 H7.out.lt); have B8 := Aside0.mk (B7.out.drew.trans (b8.mono B7.out.size)); clear b8)
              | (go_at_call 27; have ho_ := interims_calls b (refO st x.f1) pa (originR st lf x.f1).2 _ H8.out HSZ.out; rw [HIV.out] at ho_; refine ho_.mono ?_; clear ho_; rintro e w9 ⟨rfl, rfl⟩))
            go_wp2
            go_roundw
            case rel => exact ⟨k + 1, _, _, _, _, hlt, by go_num, R7, H8, X8, B8⟩
            case measure => simp [intOf]; omega
        · have q0 := HX1.out.c0
          have q1 := HX1.out.c1
          have q2 := HX1.out.c2
          have HP := Aside0.mk (⟨hrl.out.p0, hrl.out.p1⟩ : 0 ≤ pa ∧ pa ≤ 1073741824)
          have R7 := Aside0.mk (hrl.out.tick x.f1)
          have HNX := Aside0.mk (Nat.ne_of_gt hx.out.lt)
          go_wp2_with fail
          refine (catchpitref20_Tick.calls 1 st pa (out : Int) x.f1 _ _ _ _ (HG.out.below HB1.out) (refTick_eq st pa (out : Int) x.f1 HP.out)).mono ?_
          rintro e w5 ⟨rfl, b5⟩
          have X5 := Aside0.mk (HX1.out.below b5)
          have H5 := Aside0.mk (HH1.out.below b5 HH1.out.lt)
          have B5 := Aside0.mk (HB1.out.trans (b5.mono HB1.out.size))
          have y5 := pw_cell_below b5 y1
          clear b5 y1 y0 q0 q1 q2 hx0 hx1'
          have X6 := Aside0.mk (X5.out.set3 (refT st pa x.f1).1 (refT st pa x.f1).2 (out : Int))
          have H6 := Aside0.mk (IsH.far (IsH.far (IsH.far H5.out HNE.out 0 (.int .i64 (refT st pa x.f1).1)) HNE.out 1 (.int .i64 (refT st pa x.f1).2)) HNE.out 2 (.int .i64 (out : Int)))
          have B6 := Aside0.mk (below_setW (below_setW (below_setW B5.out HSX.out 0 (.int .i64 (refT st pa x.f1).1)) HSX.out 1 (.int .i64 (refT st pa x.f1).2)) HSX.out 2 (.int .i64 (out : Int)))
          have y6 := cell_far ⟨bx, 2, none⟩ (.int .i64 (out : Int)) HNX.out (cell_far ⟨bx, 1, none⟩ (.int .i64 (refT st pa x.f1).2) HNX.out (cell_far ⟨bx, 0, none⟩ (.int .i64 (refT st pa x.f1).1) HNX.out y5))
          have q0 := X5.out.c0
          have q1 := X5.out.c1
          have q2 := X5.out.c2
          have z0 := X5.out.fz 0
          have z1 := X5.out.fz 1
          have z2 := X5.out.fz 2
          go_upto_region 29 with (fail)
          clear q0 q1 q2 z0 z1 z2 y5
          generalize (((w5.setCell ⟨bx, 0, none⟩ (.int .i64 (refT st pa x.f1).1)).setCell ⟨bx, 1, none⟩ (.int .i64 (refT st pa x.f1).2)).setCell ⟨bx, 2, none⟩ (.int .i64 (out : Int))) = w6 at *
          have hnt : ((refT st pa x.f1).1 != (refT st pa x.f1).1) = false := by simp
          go_region_held3 (fun W => W.cell? ⟨bx, 0, none⟩ = some (.int .i64 (refT st pa x.f1).1) ∧ W.cell? ⟨wr.heap.size, 1, none⟩ = some (.int .i64 x.f1)) (first | exact ⟨X6.out.c0, y6⟩ | exact ⟨X7.out.c0, y7⟩) (first
            | (go_at_call 15; have ho_ := tick_calls b st pa x.f1 lf _ H6.out.drew HP.out; rw [(tickR_ref st pa x.f1 lf HP.out.1).1, (tickR_ref st pa x.f1 lf HP.out.1).2] at ho_; refine ho_.mono ?_; clear ho_; rintro e w7 ⟨rfl, h7, b7⟩; have X7 := Aside0.mk (IsX.keep (W := w6.drew) X6.out b7.2 (Ne.symm HNE.out)); have H7 := Aside0.mk (show IsH w7 b (refT st pa x.f1).1 (refT st pa x.f1).2 (tickR st pa lf x.f1).2.2 from h7); have B7 := Aside0.mk (B6.out.drew.trans (b7.1.mono HS.out)); have y7 := keep_cell (w := w6.drew) b7.2 y6 HNO.out; clear h7 b7))
          go_upto_region 31 with (fail)

          have hne : ((refT st pa x.f1).1 != (refT st pa x.f1).1) = false := by simp
          obtain ⟨rv, hrv⟩ : ∃ rv, (decide ((refT st pa x.f1).1 = 0) || decide ((refT st pa x.f1).1 = 2) && decide ((out : Int) = 25)) = rv := ⟨_, rfl⟩
          have HRV1 := Aside0.mk (R7.out.reads.trans hrv)
          have HRV2 := Aside0.mk ((refReads_eq (refT st pa x.f1).1 (refT st pa x.f1).2 (out : Int)).trans (congrArg some hrv))
          have HIV := Aside0.mk R7.out.interims
          have HSZ := Aside0.mk R7.out.size
          have HG7 := Aside0.mk (HG.out.below B7.out)
          have hne2 : (rv != rv) = false := by simp
          have hne3 : (((out : Nat) : Int) != ((out : Nat) : Int)) = false := by simp
          clear hrv
          go_region_held3 (fun W => W.cell? ⟨bx, 0, none⟩ = some (.int .i64 (refT st pa x.f1).1) ∧ W.cell? ⟨bx, 1, none⟩ = some (.int .i64 (refT st pa x.f1).2) ∧ W.cell? ⟨bx, 2, none⟩ = some (.int .i64 ((out : Nat) : Int))) (first | exact ⟨X7.out.c0, X7.out.c1, X7.out.c2⟩ | exact ⟨X8.out.c0, X8.out.c1, X8.out.c2⟩) (first
            | (go_at_call 24; refine (state_calls b (refT st pa x.f1).1 (refT st pa x.f1).2 (tickR st pa lf x.f1).2.2 _ H7.out.drew).mono ?_; rintro e w8 ⟨rfl, rfl⟩)
            | (go_at_call 25; have ho_ := reads_calls b (refT st pa x.f1).1 (refT st pa x.f1).2 (tickR st pa lf x.f1).2.2 _ H7.out.drew; rw [HRV1.out] at ho_; refine ho_.mono ?_; clear ho_; rintro e w8 ⟨rfl, rfl⟩)
            | (go_at_call 26; refine (catchpitref20_Reads.calls (refT st pa x.f1).1 (refT st pa x.f1).2 ((out : Nat) : Int) rv _ (TabOk.drewN HG7.out 1) HRV2.out).mono ?_; rintro e w8 ⟨rfl, b8⟩; have X8 := Aside0.mk (IsX.below (W := w7.drew) X7.out b8); have H8 := Aside0.mk (IsH.below (W := w7.drew) H7.out b8 H7.out.lt); have B8 := Aside0.mk (B7.out.drew.trans (b8.mono B7.out.size)); clear b8)
            | (go_at_call 27; have ho_ := interims_calls b (refT st pa x.f1).1 (refT st pa x.f1).2 (tickR st pa lf x.f1).2.2 _ H8.out HSZ.out; rw [HIV.out] at ho_; refine ho_.mono ?_; clear ho_; rintro e w9 ⟨rfl, rfl⟩))
          go_wp2
          go_roundw
          case rel => exact ⟨k + 1, _, _, _, _, hlt, by go_num, R7, H8, X8, B8⟩
          case measure => simp [intOf]; omega
        · have q0 := HX1.out.c0
          have q1 := HX1.out.c1
          have q2 := HX1.out.c2
          have R7' := hrl.out.outR x.f1
          have hon := hrl.out.outN x.f1
          have hos := hrl.out.outS x.f1
          have hof := refOut_eq st pa x.f1 out hrl.out.o
          have HSL := Aside0.mk hrl.out.size
          obtain ⟨o2, ho2⟩ : ∃ o2 : Nat, out + refN st out x.f1 = o2 := ⟨_, rfl⟩
          rw [ho2] at R7' hos hof
          obtain ⟨m, hm2⟩ : ∃ m, refN st out x.f1 = m := ⟨_, rfl⟩
          rw [hm2] at hon
          obtain ⟨tx, htx⟩ : ∃ t, interimS.extract out o2 = t := ⟨_, rfl⟩
          rw [htx] at hos hof
          have R7 := Aside0.mk R7'
          have HON := Aside0.mk hon
          have HOS := Aside0.mk hos
          have HOF := Aside0.mk hof
          clear hm2 ho2 htx R7' hon hos hof
          have HNX := Aside0.mk (Nat.ne_of_gt hx.out.lt)
          go_wp2_with fail
          refine (catchpitref20_Out.calls 1 st pa (out : Int) x.f1 _ _ _ _ _ (HG.out.below HB1.out) HOF.out).mono ?_
          rintro e w5 ⟨rfl, b5⟩
          have X5 := Aside0.mk ((HX1.out.below b5).alloc (.cells #[.int .i64 st, .int .i64 pa, .int .i64 (o2 : Int)] 36))
          have H5 := Aside0.mk ((HH1.out.below b5 HH1.out.lt).alloc (.cells #[.int .i64 st, .int .i64 pa, .int .i64 (o2 : Int)] 36))
          have b5w := HB1.out.trans (b5.mono HB1.out.size)
          have B5 := Aside0.mk (b5w.alloc b5w.size (.cells #[.int .i64 st, .int .i64 pa, .int .i64 (o2 : Int)] 36))
          have y5 := pw_cell_below (below_alloc (Below.refl w5.heap.size w5) (.cells #[.int .i64 st, .int .i64 pa, .int .i64 (o2 : Int)] 36)) (pw_cell_below b5 y1)
          clear b5 b5w y1 y0 q0 q1 q2 hx0 hx1'
          have X6 := Aside0.mk (X5.out.set3 st pa (o2 : Int))
          have H6 := Aside0.mk (IsH.far (IsH.far (IsH.far H5.out HNE.out 0 (.int .i64 st)) HNE.out 1 (.int .i64 pa)) HNE.out 2 (.int .i64 (o2 : Int)))
          have B6 := Aside0.mk (below_setW (below_setW (below_setW B5.out HSX.out 0 (.int .i64 st)) HSX.out 1 (.int .i64 pa)) HSX.out 2 (.int .i64 (o2 : Int)))
          have y6 := cell_far ⟨bx, 2, none⟩ (.int .i64 (o2 : Int)) HNX.out (cell_far ⟨bx, 1, none⟩ (.int .i64 pa) HNX.out (cell_far ⟨bx, 0, none⟩ (.int .i64 st) HNX.out y5))
          have q0 := X5.out.c0
          have q1 := X5.out.c1
          have q2 := X5.out.c2
          have z0 := X5.out.fz 0
          have z1 := X5.out.fz 1
          have z2 := X5.out.fz 2
          go_upto_region 19 with (fail)
          clear q0 q1 q2 z0 z1 z2 y5
          generalize ((((w5.alloc (.cells #[.int .i64 st, .int .i64 pa, .int .i64 (o2 : Int)] 36)).setCell ⟨bx, 0, none⟩ (.int .i64 st)).setCell ⟨bx, 1, none⟩ (.int .i64 pa)).setCell ⟨bx, 2, none⟩ (.int .i64 (o2 : Int))) = w6 at *
          go_wp2_with fail
          have ho := out_calls b st pa x.f1 lf w6 H6.out HSL.out
          rw [HON.out, HOS.out] at ho
          refine ho.mono ?_
          clear ho
          rintro e w7 ⟨c7, rfl, hc7, h7, b7⟩
          have H7 := Aside0.mk h7
          have X7 := Aside0.mk (X6.out.keep b7.2 (Ne.symm HNE.out))
          have B7 := Aside0.mk (B6.out.trans (b7.1.mono HS.out))
          have hsz : tx.size = m := by
            rw [← HOS.out, outS_size, HON.out]
          have hcv := run_convert_bytes_arg (P := Tryd.prog) w7 23 5 Tryd.underlying23 Tryd.underlying5 w6.heap.size 0 m c7 (bytesOf tx) (by rw [bytesOf_length, hsz]) (fun i hi => by
            rw [Nat.zero_add, hc7 i hi, ← rd_bytesOf]
            unfold rd
            rw [Int.toNat_natCast]) 9 Tryd.underlying9
          rw [strOfNums_bytesOf] at hcv
          clear hc7 h7 b7 hsz
          have hnt : (tx.toList != tx.toList) = false := by simp
          go_upto_region 31 with (fail)
          clear hcv hnt

          have hne : (st != st) = false := by simp
          obtain ⟨rv, hrv⟩ : ∃ rv, (decide (st = 0) || decide (st = 2) && decide ((o2 : Int) = 25)) = rv := ⟨_, rfl⟩
          have HRV1 := Aside0.mk (R7.out.reads.trans hrv)
          have HRV2 := Aside0.mk ((refReads_eq st pa (o2 : Int)).trans (congrArg some hrv))
          have HIV := Aside0.mk R7.out.interims
          have HSZ := Aside0.mk R7.out.size
          have HG7 := Aside0.mk (HG.out.below B7.out)
          have hne2 : (rv != rv) = false := by simp
          have hne3 : (((o2 : Nat) : Int) != ((o2 : Nat) : Int)) = false := by simp
          clear hrv
          go_region_held3 (fun W => W.cell? ⟨bx, 0, none⟩ = some (.int .i64 st) ∧ W.cell? ⟨bx, 1, none⟩ = some (.int .i64 pa) ∧ W.cell? ⟨bx, 2, none⟩ = some (.int .i64 ((o2 : Nat) : Int))) (first | exact ⟨X7.out.c0, X7.out.c1, X7.out.c2⟩ | exact ⟨X8.out.c0, X8.out.c1, X8.out.c2⟩) (first
            | (go_at_call 24; refine (state_calls b st pa (outR lf x.f1) _ H7.out.drew).mono ?_; rintro e w8 ⟨rfl, rfl⟩)
            | (go_at_call 25; have ho_ := reads_calls b st pa (outR lf x.f1) _ H7.out.drew; rw [HRV1.out] at ho_; refine ho_.mono ?_; clear ho_; rintro e w8 ⟨rfl, rfl⟩)
            | (go_at_call 26; refine (catchpitref20_Reads.calls st pa ((o2 : Nat) : Int) rv _ (TabOk.drewN HG7.out 1) HRV2.out).mono ?_; rintro e w8 ⟨rfl, b8⟩; have X8 := Aside0.mk (IsX.below (W := w7.drew) X7.out b8); have H8 := Aside0.mk (IsH.below (W := w7.drew) H7.out b8 H7.out.lt); have B8 := Aside0.mk (B7.out.drew.trans (b8.mono B7.out.size)); clear b8)
            | (go_at_call 27; have ho_ := interims_calls b st pa (outR lf x.f1) _ H8.out HSZ.out; rw [HIV.out] at ho_; refine ho_.mono ?_; clear ho_; rintro e w9 ⟨rfl, rfl⟩))
          go_wp2
          go_roundw
          case rel => exact ⟨k + 1, _, _, _, _, hlt, by go_num, R7, H8, X8, B8⟩
          case measure => simp [intOf]; omega
      · go_wp2
        go_ret
        exact ⟨rfl, hb.out⟩
end Go.Proofs.YtoanmbhenmlboaaDoor.Ph
end
section
namespace Go.Proofs.YtoanmbhenmlboaaDoor.Ph
abbrev S71 := Go.Proofs.YtoanmbhenmlboaaDoor.Pr.S71
abbrev k71 := Go.Proofs.YtoanmbhenmlboaaDoor.Pr.k71
end Go.Proofs.YtoanmbhenmlboaaDoor.Ph
namespace Go.Proofs.YtoanmbhenmlboaaDoor.Pure
open Go.RowKit Go.Proofs.YtoanmbhenmlboaaDoorH Go.Proofs.YtoanmbhenmlboaaDoor.Ph Go.Proofs.YtoanmbhenmlboaaDoorW.PrintWords Go.Proofs.YtoanmbhenmlboaaDoorW.PrintLast
theorem ExpectActs (l : List Fld) (p : Int) (ops : List S41) (hl : l.length * 32 ≤ 140737488351232 ∧ ∀ y ∈ l, (y.f0.size ≤ 140737488351232 ∧ y.f1.size ≤ 140737488351232)) (_hp : (Lit.int .i64 p).wf = true) (ho : ops.length * 16 ≤ 140737488351232 ∧ ∀ y ∈ ops, ((Lit.int .u8 y.f0).wf = true ∧ (Lit.int .i64 y.f1).wf = true)) : catchpitlaw20_ExpectActs.f l p ops = some true := by
  refine if_pos ⟨⟨by omega, hl.2⟩, fun y hy => ?_⟩
  have hy := (ho.2 y hy).1
  have m2 : IntKind.u8.max = 255 := rfl
  have m1 : IntKind.u8.min = 0 := rfl
  simp [Lit.wf, m1, m2] at hy
  omega
end Go.Proofs.YtoanmbhenmlboaaDoor.Pure
end
section
namespace Go.Proofs.YtoanmbhenmlboaaDoorH
open Go.RowKit Go.ChangeShapes Go.WideShapes Go.ChangeAt
theorem two_of {α : Type} {l : List α} (h : l.length = 2) : ∃ a b, l = [a, b] := by
  match l, h with
  | [a, b], _ => exact ⟨a, b, rfl⟩
theorem three_of {α : Type} {l : List α} (h : l.length = 3) : ∃ a b c, l = [a, b, c] := by
  match l, h with
  | [a, b, c], _ => exact ⟨a, b, c, rfl⟩
theorem six_of {α : Type} {l : List α} (h : l.length = 6) : ∃ a b c d e f, l = [a, b, c, d, e, f] := by
  match l, h with
  | [a, b, c, d, e, f], _ => exact ⟨a, b, c, d, e, f, rfl⟩
theorem cells_of_one {W : World} {cs : List Value} {y : DataW Unit × List MemPlace} {m : Nat} {x0 : Int}
    (hd : DataW.trod (fun _ => ()) Tryd.prog W 0 (fun _ => true) false m 5 cs = some y) (hy : y.1 = .lit (.int .u8 x0)) : cs = [.int .u8 x0] := by
  obtain ⟨n, e1, e2, _⟩ := DataW.trod_int Tryd.underlying5 hd
  rw [e2] at hy
  simp only [DataW.lit.injEq, Lit.int.injEq, true_and] at hy
  rw [e1, hy]
theorem cells_of_pair {W : World} {cs : List Value} {y : DataW Unit × List MemPlace} {m : Nat} {x0 x1 : Int}
    (hd : DataW.trod (fun _ => ()) Tryd.prog W 0 (fun _ => true) false m 114 cs = some y) (hy : y.1 = .agg [.lit (.int .u8 x0), .lit (.int .u8 x1)]) :
    cs = [.int .u8 x0, .int .u8 x1] := by
  have c5 : Tryd.prog.cellsOf 5 = 1 := by kernel_rfl
  have c2 : Tryd.prog.cellsOf 114 = 2 := by kernel_rfl
  obtain ⟨xs, m, _, ex, hn, hl, hel⟩ := DataW.trod_array Tryd.underlying114 hd
  rw [c2] at hn
  obtain ⟨a, b, rfl⟩ := two_of hn
  obtain ⟨u, v, rfl⟩ := two_of hl
  · rw [ex] at hy
    simp only [List.map_cons, List.map_nil, DataW.agg.injEq, List.cons.injEq, and_true] at hy
    have h0 := hel 0 (by omega)
    have h1 := hel 1 (by omega)
    simp only [c5] at h0 h1
    have e0 := cells_of_one (y := u) (by simpa using h0) hy.1
    have e1 := cells_of_one (y := v) (by simpa using h1) hy.2
    simp at e0 e1
    rw [e0, e1]
theorem cells_of_pairs {W : World} {cs : List Value} {y : DataW Unit × List MemPlace} {m : Nat} {x0 x1 x2 x3 x4 x5 : Int}
    (hd : DataW.trod (fun _ => ()) Tryd.prog W 0 (fun _ => true) false m 115 cs = some y)
    (hy : y.1 = .agg [.agg [.lit (.int .u8 x0), .lit (.int .u8 x1)], .agg [.lit (.int .u8 x2), .lit (.int .u8 x3)], .agg [.lit (.int .u8 x4), .lit (.int .u8 x5)]]) :
    cs = [.int .u8 x0, .int .u8 x1, .int .u8 x2, .int .u8 x3, .int .u8 x4, .int .u8 x5] := by
  have c2 : Tryd.prog.cellsOf 114 = 2 := by kernel_rfl
  have c6 : Tryd.prog.cellsOf 115 = 6 := by kernel_rfl
  obtain ⟨xs, m, _, ex, hn, hl, hel⟩ := DataW.trod_array Tryd.underlying115 hd
  rw [c6] at hn
  obtain ⟨a, b, c, d, e, f, rfl⟩ := six_of hn
  obtain ⟨u, v, z, rfl⟩ := three_of hl
  · rw [ex] at hy
    simp only [List.map_cons, List.map_nil, DataW.agg.injEq, List.cons.injEq, and_true] at hy
    have h0 := hel 0 (by omega)
    have h1 := hel 1 (by omega)
    have h2 := hel 2 (by omega)
    simp only [c2] at h0 h1 h2
    have e0 := cells_of_pair (y := u) (by simpa using h0) hy.1
    have e1 := cells_of_pair (y := v) (by simpa using h1) hy.2.1
    have e2 := cells_of_pair (y := z) (by simpa using h2) hy.2.2
    simp at e0 e1 e2
    rw [e0.1, e0.2, e1.1, e1.2, e2.1, e2.2]
theorem tabOk_of_laid {W : World} {L : List (String × DataW Unit)} (h : laidMetH Tryd.prog L W) (hp : (L.all fun x => x.2.handleName?.isNone) = true)
    (hf : L.filter (fun x => x.1 == "catchpit/octet.ends") = [("catchpit/octet.ends", Go.Proofs.YtoanmbhenmlboaaDoor.Rows.laid_catchpit_octet_ends)]) (hs : W.ShapedOpen Tryd.prog) : TabOk W := by
  rw [MakeChecks.laidMetH_plain _ _ _ hp] at h
  have h2 := laidMet.filter (fun x => x.1 == "catchpit/octet.ends") h
  rw [hf] at h2
  obtain ⟨ps, ⟨g, t, cs, fuel, p, q, hg, ht, hv, hd, _, _⟩, _, _⟩ := h2
  obtain rfl := Option.some.inj ((show Tryd.prog.globalNamed "catchpit/octet.ends" = some 0 by kernel_rfl).symm.trans hg)
  obtain rfl := Option.some.inj ((show (Tryd.prog.globals[0]?).map (·.type) = some 115 by kernel_rfl).symm.trans ht)
  have e := cells_of_pairs hd rfl
  have hc := World.var?_cell hg hv
  have at_ : ∀ j, cs[j]? = cs.toList[j]? := fun j => (Array.getElem?_toList ..).symm
  rw [e] at at_
  exact ⟨(hc 0).trans (at_ 0), (hc 1).trans (at_ 1), (hc 2).trans (at_ 2), (hc 3).trans (at_ 3), (hc 4).trans (at_ 4), (hc 5).trans (at_ 5), MxOk.of_shaped hs⟩
end Go.Proofs.YtoanmbhenmlboaaDoorH
end
section
namespace Go.Proofs.YtoanmbhenmlboaaDoorH
open Go.RowKit Go.ChangeShapes Go.WideShapes Go.ChangeAt Go.Proofs.YtoanmbhenmlboaaDoorW.PrintWords
def Light {H : Type} (P : Program) (t : TypeId) (d : DataW H) : Prop := ∀ x ∈ DataW.weights P t d, x ≤ reachBytes
structure Opens (P : Program) {α : Type} (d : Kd α) (t : TypeId) (G : α → Prop) : Prop where
  cells : P.cellsOf t = d.sz
  open_ : ∀ {H : Type} {enc : TypeId × Value → H} {W : World} {fuel : Nat} {cs : List Value} {x : DataW H × List MemPlace},
    DataW.trod enc P W 0 (fun _ => true) true fuel t cs = some x → Light P t x.1 → ∃ y, d.K W y cs ∧ G y
theorem Opens.int {P : Program} {t : TypeId} {k : IntKind} (hu : P.underlying t = some (.int k)) (hc : P.cellsOf t = 1) : Opens P (Kd.int k) t (fun n => (Lit.int k n).wf = true) := by
  refine ⟨hc, fun h _ => ?_⟩
  obtain ⟨n, e1, e2, wf⟩ := DataW.trod_int hu h
  exact ⟨n, e1, wf⟩
theorem Opens.bool {P : Program} {t : TypeId} (hu : P.underlying t = some .bool) (hc : P.cellsOf t = 1) : Opens P Kd.bool t (fun _ => True) := by
  refine ⟨hc, fun {_ _ _ fuel cs _} h _ => ?_⟩
  cases fuel with
  | zero => simp [DataW.trod] at h
  | succ m =>
    unfold DataW.trod at h
    rw [hu] at h
    match cs, h with
    | [.bool b], _ => exact ⟨b, rfl, trivial⟩
theorem Opens.string {P : Program} {t : TypeId} (hu : P.underlying t = some .string) (hc : P.cellsOf t = 1) : Opens P Kd.string t (fun s => s.size ≤ 140737488351232) := by
  refine ⟨hc, fun h hl => ?_⟩
  obtain ⟨s, e1, e2, _⟩ := DataW.trod_string hu h
  refine ⟨s, e1, ?_⟩
  subst e2
  have := hl s.data.toList.length (by simp [DataW.weights])
  rw [data_length] at this
  exact this
theorem weightsAll_mem {H : Type} (P : Program) (e : TypeId) : ∀ (l : List (DataW H)) (d : DataW H), d ∈ l → ∀ x ∈ DataW.weights P e d, x ∈ DataW.weightsAll P e l
  | [], d, h, _, _ => by cases h
  | a :: l, d, h, x, hx => by
    rw [DataW.weightsAll]
    rcases List.mem_cons.1 h with rfl | h
    · exact List.mem_append_left _ hx
    · exact List.mem_append_right _ (weightsAll_mem P e l d h x hx)
theorem list_of {α : Type} {p : Nat → α → Prop} : ∀ n : Nat, (∀ i, i < n → ∃ y, p i y) → ∃ l : List α, l.length = n ∧ ∀ i y, l[i]? = some y → p i y
  | 0, _ => ⟨[], rfl, fun i y h => by simp at h⟩
  | n + 1, h => by
    obtain ⟨l, hl, hp⟩ := list_of n (fun i hi => h i (by omega))
    obtain ⟨y, hy⟩ := h n (by omega)
    refine ⟨l ++ [y], by simp [hl], fun i z hz => ?_⟩
    rcases Nat.lt_or_ge i n with hi | hi
    · rw [List.getElem?_append_left (by omega)] at hz
      exact hp i z hz
    · rw [List.getElem?_append_right (by omega), hl] at hz
      rcases Nat.eq_zero_or_pos (i - n) with h0 | h0
      · rw [h0] at hz
        obtain rfl : i = n := by omega
        obtain rfl : y = z := by simpa using hz
        exact hy
      · rw [List.getElem?_eq_none (by simp; omega)] at hz
        cases hz
theorem add_add (a : Addr) (i j : Nat) : (a.add i).add j = a.add (i + j) := by
  unfold Addr.add
  by_cases h1 : i = 0
  · subst h1; simp
  · by_cases h2 : j = 0
    · subst h2; simp [h1]
    · simp [h1, h2, Nat.add_assoc]
theorem cells_at {W : World} {base : Nat} {a : Addr} {n : Nat} {cs : List Value} (h : W.cells? base a n = some cs) : cs.length = n ∧ ∀ (i : Nat) u, cs[i]? = some u → W.cell? (a.add i) = some u := by
  obtain ⟨_, hn, hc⟩ := World.cells?_some h
  refine ⟨hn, fun i u hu => ?_⟩
  have hi : i < n := by
    rcases Nat.lt_or_ge i n with hi | hi
    · exact hi
    · rw [List.getElem?_eq_none (by omega)] at hu; cases hu
  rw [hc i hi, hu]
theorem Opens.slice {P : Program} {α : Type} {d : Kd α} {t e : TypeId} {G : α → Prop} (h : Opens P d e G) (hu : P.underlying t = some (.slice e)) (hc : P.cellsOf t = 1) {B : Nat} (hB : P.bytesOf e = B) :
    Opens P (Kd.slice e d) t (fun l => l.length * B ≤ 140737488351232 ∧ ∀ y ∈ l, G y) := by
  refine ⟨hc, fun {H enc W fuel cs x} hx hl => ?_⟩
  rcases Deep.open_slice hu hx with ⟨rfl, rfl⟩ | ⟨a, len, cap, m, n, D, Pl, rfl, _, hle, hm, hmm, rfl, hel⟩
  · exact ⟨[], ⟨none, 0, rfl, Nat.le_refl _, rfl, by simp, fun h => by simp at h⟩, by simp, fun y hy => by cases hy⟩
  · simp only [if_true] at hmm
    subst hmm
    have hw : (len + (m - len)) * B ≤ 140737488351232 := by
      have := hl ((len + (m - len)) * B) (by
        unfold DataW.weights
        simp only [hu, hB]
        simp)
      exact this
    have hget : ∀ i, i < len → ∃ y, (∃ c, c.length = d.sz ∧ d.K W y c ∧ ∀ j u, c[j]? = some u → W.cell? (a.add (i * d.sz + j)) = some u) ∧ G y := by
      intro i hi
      obtain ⟨cs', h1, h2⟩ := hel i (by omega)
      obtain ⟨y, hy, hg⟩ := h.open_ h2 (fun x hx => hl x (by
        unfold DataW.weights
        simp only [hu]
        refine List.mem_cons_of_mem _ (List.mem_append_left _ (weightsAll_mem P e _ (D i) ?_ x hx))
        exact List.mem_map.2 ⟨i, List.mem_range.2 hi, rfl⟩))
      obtain ⟨hn, hcell⟩ := cells_at h1
      refine ⟨y, ⟨cs', by rw [hn, h.cells], hy, fun j u hj => ?_⟩, hg⟩
      have := hcell j u hj
      rw [add_add, h.cells] at this
      exact this
    obtain ⟨l, hll, hat⟩ := list_of len hget
    refine ⟨l, ⟨some a, m, by rw [hll], by omega, rfl, by rw [hll]; unfold maxLen at hm; omega, fun _ => ⟨a, rfl, fun j p hj => (hat j p hj).1⟩⟩, ?_, fun y hy => ?_⟩
    · rw [hll]
      exact Nat.le_trans (Nat.mul_le_mul_right _ (by omega)) hw
    · obtain ⟨i, hi, rfl⟩ := List.mem_iff_getElem.1 hy
      exact (hat i _ (List.getElem?_eq_getElem hi)).2
theorem weights_agg {H : Type} {P : Program} {t : TypeId} {fs : Array Field} (hu : P.underlying t = some (.struct fs)) (xs : List (DataW H)) : DataW.weights P t (.agg xs) = DataW.weightsEach P (fs.toList.map (·.type)) xs := by
  simp [DataW.weights, hu]
theorem light_of {H : Type} {P : Program} {ts : List TypeId} {ds : List (DataW H)} (h : (DataW.weightsEach P ts ds).all (· ≤ reachBytes) = true) {j : Nat} {t : TypeId} {d : DataW H} (ht : ts[j]? = some t) (hd : ds[j]? = some d) : Light P t d := fun x hx => by
  have := List.all_eq_true.1 h x (DataW.weights_mem_each ht hd x hx)
  simpa using this
theorem Opens.struct2 {P : Program} {α β : Type} {d0 : Kd α} {d1 : Kd β} {t : TypeId} {f0 f1 : Field} {G0 : α → Prop} {G1 : β → Prop} (h0 : Opens P d0 f0.type G0) (h1 : Opens P d1 f1.type G1) (hu : P.underlying t = some (.struct #[f0, f1]))
    (o0 : f0.offset = 0) (o1 : f1.offset = d0.sz) (hc : P.cellsOf t = d0.sz + d1.sz) : Opens P (Kd.pair d0 d1) t (fun x => G0 x.1 ∧ G1 x.2) := by
  refine ⟨hc, fun {H enc W fuel cs x} hx hl => ?_⟩
  obtain ⟨y0, y1, n, rfl, hn, e0, e1⟩ := trod_struct2 hu hx
  have hw : ∀ x, x ∈ DataW.weights P t (.agg [y0.1, y1.1]) → x ≤ reachBytes := hl
  rw [weights_agg hu] at hw
  obtain ⟨x0, k0, g0⟩ := h0.open_ e0 (fun x hx => hw x (DataW.weights_mem_each (j := 0) rfl rfl x hx))
  obtain ⟨x1, k1, g1⟩ := h1.open_ e1 (fun x hx => hw x (DataW.weights_mem_each (j := 1) rfl rfl x hx))
  refine ⟨(x0, x1), ⟨_, _, ?_, k0, k1⟩, g0, g1⟩
  rw [o0, o1, h0.cells, h1.cells, List.drop_zero]
  rw [hc] at hn
  have : (cs.drop d0.sz).take d1.sz = cs.drop d0.sz := List.take_of_length_le (by rw [List.length_drop]; omega)
  rw [this, List.take_append_drop]
theorem Opens.iso {P : Program} {α β : Type} {d : Kd α} {t : TypeId} {G : α → Prop} (h : Opens P d t G) (f : β → α) (g : α → β) (hfg : ∀ y, f (g y) = y) : Opens P (Kd.iso d f) t (fun x => G (f x)) := by
  refine ⟨h.cells, fun {H enc W fuel cs x} hx hl => ?_⟩
  obtain ⟨y, hk, hg⟩ := h.open_ hx hl
  exact ⟨g y, show d.K W (f (g y)) cs by rw [hfg]; exact hk, by rw [hfg]; exact hg⟩
end Go.Proofs.YtoanmbhenmlboaaDoorH
end
section
namespace Go.Proofs.YtoanmbhenmlboaaDoorH
open Go
variable {H : Type} {enc : TypeId × Value → H}
theorem returns_and_shaped {a : Assume} {C : Checked} {os : Os} {f : FuncId} {fn : Func} {s : ChangeSpec} {conds : List PathCond} {apart fresh handsOn again : Bool} {X : World → Array Value → Prop}
    (hX : ∀ (w w' : World) (args : Array Value), w.heap = w'.heap → X w args → X w' args)
    (own : ownKnob C.prog.godebug = none) (started : os.Started) (noInit : C.prog.inits.idxOf? f = none) (hfn : C.prog.funcs[f]? = some fn)
    (witness : ∃ (w : World) (tape : Tape) (i : Input), w.os = os ∧ (w.forCall tape i).Shaped C.prog ∧ i.vars = [] ∧ Input.okWide C.prog (w.forCall tape i) .any w.heap.size f i ∧
      ((s.pre enc C.prog fn conds apart (w.forCall tape i).memory i.args ∧ X (w.forCall tape i).memory i.args) ∧ sizedMet enc C.prog fn (OpenSpec.ofChange s) apart (w.forCall tape i).memory i.args) ∧ a.holds C.prog (lone (Frame.enter C.prog f i.args .normal) [] (w.forCall tape i)))
    (contract : ∀ (W : World) (base : Nat) (args : Array Value) (ds gs : List (DataW H)) (before : List MemPlace),
      (∀ (j : Nat) t v, fn.params[j]? = some t → args[j]? = some v → Value.okWide C.prog W .any base t v) →
      DataW.Whole enc C.prog fn.params.toList s.vars apart W args.toList ds gs before →
      conds.all (PathCond.test C.prog ⟨fn.params.toList, ds, s.plain.varTypes C.prog, gs⟩) = true →
      (DataW.weightsEach C.prog (fn.params.toList ++ s.plain.varTypes C.prog) (ds ++ gs)).all (· ≤ reachBytes) = true → X W args →
      W.ShapedOpen C.prog →
      a.holds C.prog (lone (Frame.enter C.prog f args .normal) [] W) →
      Calls C.prog f args W fun e W' => ∃ v, e = .returned v ∧ s.post enc C.prog fn apart fresh handsOn again W args v W') :
    ReturnsInHanded a C os f .any (fun w args => (s.pre enc C.prog fn conds apart w args ∧ X w args) ∧ sizedMet enc C.prog fn (OpenSpec.ofChange s) apart w args) (s.post enc C.prog fn apart fresh handsOn again) := by
  refine returnsInHanded_of_calls own started noInit witness ?_
  intro w tape i _ hsh _ hok hpre hholds
  obtain ⟨_, _, _, fn', hfn', _, _, _, _, hval⟩ := hok
  have e : fn' = fn := Option.some.inj (hfn'.symm.trans hfn)
  subst e
  obtain ⟨⟨⟨ds, gs, before, hw, hc⟩, hx⟩, hz⟩ := hpre
  have hw' := DataW.Whole.of_heap (w' := w.forCall tape i) (by rfl) hw
  refine (contract (w.forCall tape i) w.heap.size i.args ds gs before hval hw' hc (hz.weights hw) (hX _ _ _ (by rfl) hx) hsh hholds).mono fun e W' ⟨v, he, hp⟩ => ?_
  subst he
  exact ChangeSpec.post_blind hp
end Go.Proofs.YtoanmbhenmlboaaDoorH
end
