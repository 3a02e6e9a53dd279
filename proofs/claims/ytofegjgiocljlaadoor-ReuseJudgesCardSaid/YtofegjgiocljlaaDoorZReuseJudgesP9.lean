import Derived.Test.YtofegjgiocljlaaDoorZReuseJudgesP8
import Derived.Test.YtofegjgiocljlaaDoorZReuseJudgesP2
import Derived.Deep.RegionHeld3
import Derived.Test.YtofegjgiocljlaaDoorRows
import Derived.LaidSub
import Derived.MakeChecks
import Derived.ProofKit
import Derived.OpenShut
import Derived.LaidMore
import Derived.HandedShaped
import Derived.Handed
import Derived.SizedLaws
section
namespace Go.Proofs.YtofegjgiocljlaaDoor.Pg
open Go.RowKit Go.Proofs.YtofegjgiocljlaaDoorH Go.Proofs.YtofegjgiocljlaaDoorW.PrintWords Go.Proofs.YtofegjgiocljlaaDoorW.PrintLast Go.Proofs.YtofegjgiocljlaaDoorW.PrintMore Go.Proofs.YtofegjgiocljlaaDoor.Pr
def catchpitlaw25_ReuseJudges.f (q p : HalfD) : Option Bool := if Fits q ∧ Fits p then some true else none
set_option maxHeartbeats 4000000 in
set_option maxRecDepth 100000 in
theorem catchpitlaw25_ReuseJudges.calls (q : HalfD) (A0 : Option Addr) (c0 : Nat) (p : HalfD) (A1 : Option Addr) (c1 : Nat) (r : Bool) (w : World) (hr0 : Kd.C k37 w A0 q.l.length q.l) (hc0 : q.l.length ≤ c0) (hr1 : Kd.C k37 w A1 p.l.length p.l) (hc1 : p.l.length ≤ c1) (hG : TabOk w) (h : catchpitlaw25_ReuseJudges.f q p = some r) :
    Calls Tryd.prog 5 #[.agg #[.int .i64 q.o, .int .i64 q.ik, .int .u64 q.iz, .int .i64 q.ok, .int .u64 q.oz, .int .i64 q.rest, .slice A0 q.l.length c0], .agg #[.int .i64 p.o, .int .i64 p.ik, .int .u64 p.iz, .int .i64 p.ok, .int .u64 p.oz, .int .i64 p.rest, .slice A1 p.l.length c1]] w fun e w' => e = .returned (.bool r) ∧ Below w.heap.size w w' := by
  unfold catchpitlaw25_ReuseJudges.f at h
  split at h
  case isFalse => cases h
  rename_i hf
  injection h with h
  subst h
  obtain ⟨o, ik, iz, ok, oz, rest, lq⟩ := q
  obtain ⟨o', ik', iz', ok', oz', rest', lp⟩ := p
  have HSQ := Aside0.mk (show Small1 lq from hf.1.2)
  have HSP := Aside0.mk (show Small1 lp from hf.2.2)
  obtain ⟨K1, g1⟩ := great_ev o ik iz ok oz rest lq HSQ.out hf.1.1
  obtain ⟨K2, g2⟩ := great_ev o' ik' iz' ok' oz' rest' lp HSP.out hf.2.1
  have HG1 := Aside0.mk g1
  have HG2 := Aside0.mk g2
  have HR0 := Aside0.mk (show Kd.C k37 w A0 lq.length lq from hr0)
  have HR1 := Aside0.mk (show Kd.C k37 w A1 lp.length lp from hr1)
  have HC0 := Aside0.mk (show lq.length ≤ c0 from hc0)
  have HC1 := Aside0.mk (show lp.length ≤ c1 from hc1)
  have HG := Aside0.mk hG
  clear hf g1 g2 hr0 hr1 hc0 hc1 hG
  have HBL := Aside0.mk (fun W (h : Below w.heap.size w W) => (⟨Kd.C_below HR0.out h, Kd.C_below HR1.out h, HG.out.below h⟩ : Kd.C k37 W A0 lq.length lq ∧ Kd.C k37 W A1 lp.length lp ∧ TabOk W))
  dsimp only
  have B0 := Aside0.mk (show Below w.heap.size w ((w.alloc (.cells #[.int .i64 o, .int .i64 ik, .int .u64 iz, .int .i64 ok, .int .u64 oz, .int .i64 rest, .slice A0 lq.length c0] 27)).alloc (.cells #[.int .i64 o', .int .i64 ik', .int .u64 iz', .int .i64 ok', .int .u64 oz', .int .i64 rest', .slice A1 lp.length c1] 27)) from below_alloc (below_alloc (Below.refl _ _) _) _)
  have Q0 := Aside0.mk (show HaAt ((w.alloc (.cells #[.int .i64 o, .int .i64 ik, .int .u64 iz, .int .i64 ok, .int .u64 oz, .int .i64 rest, .slice A0 lq.length c0] 27)).alloc (.cells #[.int .i64 o', .int .i64 ik', .int .u64 iz', .int .i64 ok', .int .u64 oz', .int .i64 rest', .slice A1 lp.length c1] 27)) w.heap.size o ik iz ok oz rest A0 lq.length c0 from blk_alloc (heap_alloc_new w _) _)
  have P0 := Aside0.mk (show HaAt ((w.alloc (.cells #[.int .i64 o, .int .i64 ik, .int .u64 iz, .int .i64 ok, .int .u64 oz, .int .i64 rest, .slice A0 lq.length c0] 27)).alloc (.cells #[.int .i64 o', .int .i64 ik', .int .u64 iz', .int .i64 ok', .int .u64 oz', .int .i64 rest', .slice A1 lp.length c1] 27)) (w.heap.size + 1) o' ik' iz' ok' oz' rest' A1 lp.length c1 by
    have h := heap_alloc_new (w.alloc (.cells #[.int .i64 o, .int .i64 ik, .int .u64 iz, .int .i64 ok, .int .u64 oz, .int .i64 rest, .slice A0 lq.length c0] 27)) (.cells #[.int .i64 o', .int .i64 ik', .int .u64 iz', .int .i64 ok', .int .u64 oz', .int .i64 rest', .slice A1 lp.length c1] 27)
    rw [World.size_alloc] at h
    exact h)
  go_enter Tryd.func5, Tryd.ntmps5
  go_wp2_with fail
  refine (wakes25_calls _ (HBL.out _ B0.out).2.2).mono ?_
  rintro e w1 ⟨rfl, b1⟩
  have B1 := Aside0.mk (B0.out.trans (b1.mono B0.out.size))
  have Q1 := Aside0.mk (Q0.out.below b1)
  have P1 := Aside0.mk (P0.out.below b1)
  clear b1
  obtain ⟨q0, q1, q2, q3, q4, q5, q6⟩ := Q1.out.all
  obtain ⟨p0, p1, p2, p3, p4, p5, p6⟩ := P1.out.all
  go_wp2_with fail
  refine (catchpitref25_Great.calls K1 o ik iz ok oz rest A0 c0 lq _ w1 (HBL.out _ B1.out).1 HC0.out (HBL.out _ B1.out).2.2 HG1.out).mono ?_
  rintro e w2 ⟨rfl, b2⟩
  have B2 := Aside0.mk (B1.out.trans (b2.mono B1.out.size))
  have Q2 := Aside0.mk (Q1.out.below b2)
  have P2 := Aside0.mk (P1.out.below b2)
  clear b2
  clear q0 q1 q2 q3 q4 q5 q6 p0 p1 p2 p3 p4 p5 p6
  by_cases hg : 2000 < sumF lq
  · rw [decide_eq_true hg]
    clear hg
    go_wp2
    go_ret
    exact ⟨rfl, B2.out⟩
  rw [decide_eq_false hg]
  have HSF := Aside0.mk (show sumF lq ≤ 2000 by omega)
  clear hg
  obtain ⟨q0, q1, q2, q3, q4, q5, q6⟩ := Q2.out.all
  obtain ⟨p0, p1, p2, p3, p4, p5, p6⟩ := P2.out.all
  go_wp2_with fail
  refine (catchpitref25_Great.calls K2 o' ik' iz' ok' oz' rest' A1 c1 lp _ w2 (HBL.out _ B2.out).2.1 HC1.out (HBL.out _ B2.out).2.2 HG2.out).mono ?_
  rintro e w3 ⟨rfl, b3⟩
  have B3 := Aside0.mk (B2.out.trans (b3.mono B2.out.size))
  have Q3 := Aside0.mk (Q2.out.below b3)
  have P3 := Aside0.mk (P2.out.below b3)
  clear b3
  clear q0 q1 q2 q3 q4 q5 q6 p0 p1 p2 p3 p4 p5 p6
  by_cases hg : 2000 < sumF lp
  · rw [decide_eq_true hg]
    clear hg
    go_wp2
    go_ret
    exact ⟨rfl, B3.out⟩
  rw [decide_eq_false hg]
  have HSF' := Aside0.mk (show sumF lp ≤ 2000 by omega)
  clear hg
  go_upto_region 5 with (fail)
  have HJF := Aside0.mk (show reuse_Judge.f o ik iz ok oz rest lq o' ik' iz' ok' oz' rest' lp = some (clB (onesTo (stB ⟨o, ik, iz, ok, oz, rest, none, 0, 0⟩ ⟨o', ik', iz', ok', oz', rest', none, 0, 0⟩ lq lp) 6), orB (onesTo (stB ⟨o, ik, iz, ok, oz, rest, none, 0, 0⟩ ⟨o', ik', iz', ok', oz', rest', none, 0, 0⟩ lq lp) 6)) by unfold reuse_Judge.f; rw [if_pos ⟨by have := HSF.out; omega, by have := HSF'.out; omega⟩]; rfl)
  obtain ⟨c, hc⟩ : ∃ c, clB (onesTo (stB ⟨o, ik, iz, ok, oz, rest, none, 0, 0⟩ ⟨o', ik', iz', ok', oz', rest', none, 0, 0⟩ lq lp) 6) = c := ⟨_, rfl⟩
  obtain ⟨d, hd⟩ : ∃ c, orB (onesTo (stB ⟨o, ik, iz, ok, oz, rest, none, 0, 0⟩ ⟨o', ik', iz', ok', oz', rest', none, 0, 0⟩ lq lp) 6) = c := ⟨_, rfl⟩
  rw [hc, hd] at HJF
  have HCC := Aside0.mk hc
  have HDD := Aside0.mk hd
  have HPL := Aside0.mk B3.out.size
  clear hc hd
  go_cut [5] (fun u5 wc => ∃ bv : Nat, u5 = .pointer (some ⟨bv, 0, none⟩) ∧ Aside0 (IsV2 wc bv c d) ∧ Aside0 (HaAt wc w.heap.size o ik iz ok oz rest A0 lq.length c0) ∧ Aside0 (HaAt wc (w.heap.size + 1) o' ik' iz' ok' oz' rest' A1 lp.length c1) ∧ Aside0 (Below w.heap.size w wc))
  case first =>
    have hl0 : w.heap.size < w3.heap.size := blk_lt Q3.out
    have hl1 : w.heap.size + 1 < w3.heap.size := blk_lt P3.out
    go_region_held3 (fun W => W.cell? ⟨w.heap.size, 0, none⟩ = some (.int .i64 o) ∧ W.cell? ⟨w.heap.size, 1, none⟩ = some (.int .i64 ik) ∧ W.cell? ⟨w.heap.size, 2, none⟩ = some (.int .u64 iz) ∧ W.cell? ⟨w.heap.size, 3, none⟩ = some (.int .i64 ok) ∧ W.cell? ⟨w.heap.size, 4, none⟩ = some (.int .u64 oz) ∧ W.cell? ⟨w.heap.size, 5, none⟩ = some (.int .i64 rest) ∧ W.cell? ⟨w.heap.size, 6, none⟩ = some (.slice A0 lq.length c0) ∧ W.cell? ⟨w.heap.size + 1, 0, none⟩ = some (.int .i64 o') ∧ W.cell? ⟨w.heap.size + 1, 1, none⟩ = some (.int .i64 ik') ∧ W.cell? ⟨w.heap.size + 1, 2, none⟩ = some (.int .u64 iz') ∧ W.cell? ⟨w.heap.size + 1, 3, none⟩ = some (.int .i64 ok') ∧ W.cell? ⟨w.heap.size + 1, 4, none⟩ = some (.int .u64 oz') ∧ W.cell? ⟨w.heap.size + 1, 5, none⟩ = some (.int .i64 rest') ∧ W.cell? ⟨w.heap.size + 1, 6, none⟩ = some (.slice A1 lp.length c1)) (exact and14 (by repeat (first | exact Q3.out | refine blk_alloc ?_ _ | (refine blk_far ?_ (by dsimp only; omega) _) | refine blk_below ?_ (by assumption))) (by repeat (first | exact P3.out | refine blk_alloc ?_ _ | (refine blk_far ?_ (by dsimp only; omega) _) | refine blk_below ?_ (by assumption)))) (first
      | (go_at_call 16; refine (of_calls _ _ _ _ _ _ _ _ _ _).mono ?_; rintro e w4 ⟨rfl, b4⟩; (first | (have hv := blk_below (heap_alloc_new _ (Obj.cells #[.bool false, .bool false] 31 (0, 0))) b4) | (have hv := blk_below (w := World.drew (World.alloc w3 (Obj.cells #[.bool false, .bool false] 31 (0, 0)))) (heap_alloc_new w3 (Obj.cells #[.bool false, .bool false] 31 (0, 0))) b4) | (have hv := blk_below hv b4) | skip); have z_b4 := b4.size; (try simp only [World.size_alloc] at z_b4); (try dsimp only [World.drew] at z_b4); (try simp only [World.size_alloc] at z_b4))
      | (go_at_call 15; refine Calls.mono (reuse_Judge.calls o ik iz ok oz rest A0 c0 lq o' ik' iz' ok' oz' rest' A1 c1 lp c d _ (HBL.out _ (by repeat (first | exact B3.out | refine below_step ?_ (by assumption) | apply below_alloc | apply below_drew1))).1 HC0.out (HBL.out _ (by repeat (first | exact B3.out | refine below_step ?_ (by assumption) | apply below_alloc | apply below_drew1))).2.1 HC1.out (HBL.out _ (by repeat (first | exact B3.out | refine below_step ?_ (by assumption) | apply below_alloc | apply below_drew1))).2.2 HJF.out) ?_; rintro e w6 ⟨rfl, b6⟩; (first | (have hv := blk_below (heap_alloc_new _ (Obj.cells #[.bool false, .bool false] 31 (0, 0))) b6) | (have hv := blk_below (w := World.drew (World.alloc w3 (Obj.cells #[.bool false, .bool false] 31 (0, 0)))) (heap_alloc_new w3 (Obj.cells #[.bool false, .bool false] 31 (0, 0))) b6) | (have hv := blk_below hv b6) | skip); have z_b6 := b6.size; (try simp only [World.size_alloc] at z_b6); (try dsimp only [World.drew] at z_b6); (try simp only [World.size_alloc] at z_b6); (try have v0_ : w6.cell? ⟨_, 0, none⟩ = some (.bool false) := (blk_cell hv 0).trans rfl); (try have v1_ : w6.cell? ⟨_, 1, none⟩ = some (.bool false) := (blk_cell hv 1).trans rfl); (try have f0_ := blk_frozen hv 0); (try have f1_ := blk_frozen hv 1)))
    all_goals
      go_wp2
      go_meet
      case rel =>
        refine ⟨_, rfl, ⟨?_⟩, ⟨?_⟩, ⟨?_⟩, ⟨?_⟩⟩
        · first
            | exact heap_alloc_new w6 _
            | exact blk_put (blk_put hv 0 _ rfl) 1 _ rfl
        · repeat (first | exact Q3.out | refine blk_alloc ?_ _ | (refine blk_far ?_ (by dsimp only; omega) _) | refine blk_below ?_ (by assumption))
        · repeat (first | exact P3.out | refine blk_alloc ?_ _ | (refine blk_far ?_ (by dsimp only; omega) _) | refine blk_below ?_ (by assumption))
        · repeat (first | exact B3.out | refine below_step ?_ (by assumption) | (refine Below.setCell ?_ (by dsimp only; omega) _) | apply below_alloc | apply below_drew1)
  case rest =>
    obtain ⟨bv, rfl, V7, Q7, P7, B7⟩ := hcut
    have v0 : wc.cell? ⟨bv, 0, none⟩ = some (.bool c) := (blk_cell V7.out 0).trans rfl
    have v1 : wc.cell? ⟨bv, 1, none⟩ = some (.bool d) := (blk_cell V7.out 1).trans rfl
    have HWF := Aside0.mk (show reuse_Why.f o ik iz ok oz rest lq o' ik' iz' ok' oz' rest' lp = some ((onesTo (stB ⟨o, ik, iz, ok, oz, rest, none, 0, 0⟩ ⟨o', ik', iz', ok', oz', rest', none, 0, 0⟩ lq lp) 6).map qWd) by unfold reuse_Why.f; rw [if_pos ⟨by have := HSF.out; omega, by have := HSF'.out; omega⟩]; rfl)
    obtain ⟨L, hL⟩ : ∃ L, (onesTo (stB ⟨o, ik, iz, ok, oz, rest, none, 0, 0⟩ ⟨o', ik', iz', ok', oz', rest', none, 0, 0⟩ lq lp) 6).map qWd = L := ⟨_, rfl⟩
    rw [hL] at HWF
    obtain ⟨K, g1, g2, g3, g4⟩ := ref25_ev o ik iz ok oz rest lq o' ik' iz' ok' oz' rest' lp HSQ.out (by have := HSF.out; omega) HSP.out (by have := HSF'.out; omega) c d L HCC.out HDD.out hL
    have HK1 := Aside0.mk g1
    have HK2 := Aside0.mk g2
    have HK3 := Aside0.mk g3
    have HK4 := Aside0.mk g4
    have HWQ := Aside0.mk (well_ref o ik iz ok oz rest none 0 0 lq)
    have HWQ' := Aside0.mk (well_eq ⟨o, ik, iz, ok, oz, rest, none, 0, 0⟩ lq)
    clear HJF HCC HDD hL g1 g2 g3 g4
    dsimp only at HWQ'
    generalize wellB ⟨o, ik, iz, ok, oz, rest, none, 0, 0⟩ = wq at *
    clear v0 v1
    go_upto_region 6 with (fail)
    refine wp_region_held_drew (S := (fun W => W.cell? ⟨bv, 0, none⟩ = some (.bool c) ∧ W.cell? ⟨bv, 1, none⟩ = some (.bool d) ∧ W.cell? ⟨w.heap.size, 0, none⟩ = some (.int .i64 o) ∧ W.cell? ⟨w.heap.size, 1, none⟩ = some (.int .i64 ik) ∧ W.cell? ⟨w.heap.size, 2, none⟩ = some (.int .u64 iz) ∧ W.cell? ⟨w.heap.size, 3, none⟩ = some (.int .i64 ok) ∧ W.cell? ⟨w.heap.size, 4, none⟩ = some (.int .u64 oz) ∧ W.cell? ⟨w.heap.size, 5, none⟩ = some (.int .i64 rest) ∧ W.cell? ⟨w.heap.size, 6, none⟩ = some (.slice A0 lq.length c0) ∧ W.cell? ⟨w.heap.size + 1, 0, none⟩ = some (.int .i64 o') ∧ W.cell? ⟨w.heap.size + 1, 1, none⟩ = some (.int .i64 ik') ∧ W.cell? ⟨w.heap.size + 1, 2, none⟩ = some (.int .u64 iz') ∧ W.cell? ⟨w.heap.size + 1, 3, none⟩ = some (.int .i64 ok') ∧ W.cell? ⟨w.heap.size + 1, 4, none⟩ = some (.int .u64 oz') ∧ W.cell? ⟨w.heap.size + 1, 5, none⟩ = some (.int .i64 rest') ∧ W.cell? ⟨w.heap.size + 1, 6, none⟩ = some (.slice A1 lp.length c1))) (by kernel_rfl) ?_ (fun hHeld => ?_)
    · exact ⟨(blk_cell (show IsV2 _ bv c d from (by repeat (first | exact V7.out | refine blk_below ?_ (by assumption)))) 0).trans rfl, (blk_cell (show IsV2 _ bv c d from (by repeat (first | exact V7.out | refine blk_below ?_ (by assumption)))) 1).trans rfl, and14 (by repeat (first | exact Q7.out | refine blk_below ?_ (by assumption))) (by repeat (first | exact P7.out | refine blk_below ?_ (by assumption)))⟩
    refine take_at (i := 0) (take_d rfl) ?_
    intro h_i
    refine wpAnyH_take (v := ?_) h_i (by kernel_rfl) (by kernel_rfl) (by kernel_rfl) (fun _ _ _ h => h) (Or.inl ⟨by rfl, ?_⟩) (by assumption) ?_
    case refine_2 => (intro w hSw; (try dsimp only at hSw); go_simp; (try with_reducible rfl))
    clear h_i
    try simp only [Act.put, List.setIfInBounds_toArray, List.set_cons_zero, List.set_cons_succ]
    refine take_at (i := 1) (take_d rfl) ?_
    intro h_i
    refine wpAnyH_take (v := ?_) h_i (by kernel_rfl) (by kernel_rfl) (by kernel_rfl) (fun _ _ _ h => h) (Or.inl ⟨by rfl, ?_⟩) (by assumption) ?_
    case refine_2 => (intro w hSw; (try dsimp only at hSw); go_simp; (try with_reducible rfl))
    clear h_i
    try simp only [Act.put, List.setIfInBounds_toArray, List.set_cons_zero, List.set_cons_succ]
    refine take_at (i := 2) (take_d rfl) ?_
    intro h_i
    refine wpAnyH_take (v := ?_) h_i (by kernel_rfl) (by kernel_rfl) (by kernel_rfl) (fun _ _ _ h => h) (Or.inl ⟨by rfl, ?_⟩) (by assumption) ?_
    case refine_2 => (intro w hSw; (try dsimp only at hSw); go_simp; (try with_reducible rfl))
    clear h_i
    try simp only [Act.put, List.setIfInBounds_toArray, List.set_cons_zero, List.set_cons_succ]
    refine take_at (i := 4) (take_d rfl) ?_
    intro h_i
    refine wpAnyH_take (v := ?_) h_i (by kernel_rfl) (by kernel_rfl) (by kernel_rfl) (fun _ _ _ h => h) (Or.inl ⟨by rfl, ?_⟩) (by assumption) ?_
    case refine_2 => (intro w hSw; (try dsimp only at hSw); go_simp; (try with_reducible rfl))
    clear h_i
    try simp only [Act.put, List.setIfInBounds_toArray, List.set_cons_zero, List.set_cons_succ]
    refine take_at (i := 5) (take_d rfl) ?_
    intro h_i
    refine wpAnyH_take (v := ?_) h_i (by kernel_rfl) (by kernel_rfl) (by kernel_rfl) (fun _ _ _ h => h) (Or.inl ⟨by rfl, ?_⟩) (by assumption) ?_
    case refine_2 => (intro w hSw; (try dsimp only at hSw); go_simp; (try with_reducible rfl))
    clear h_i
    try simp only [Act.put, List.setIfInBounds_toArray, List.set_cons_zero, List.set_cons_succ]
    refine wpAnyH_ready (rs := [3]) (by kernel_rfl) (by simp) ?_
    refine AllReadyH.cons (take_d rfl) (fun zK hK => ?_) AllReadyH.nil
    go_simp
    refine Calls.mono (catchpitref25_Client.calls K o ik iz ok oz rest A0 c0 lq o' ik' iz' ok' oz' rest' A1 c1 lp c _ (HBL.out _ (by repeat (first | exact B7.out | refine below_step ?_ (by assumption) | apply below_alloc | apply below_drew1))).1 HC0.out (HBL.out _ (by repeat (first | exact B7.out | refine below_step ?_ (by assumption) | apply below_alloc | apply below_drew1))).2.1 HC1.out (HBL.out _ (by repeat (first | exact B7.out | refine below_step ?_ (by assumption) | apply below_alloc | apply below_drew1))).2.2 HK1.out) ?_
    rintro e w8 ⟨rfl, b8⟩
    go_wp2_with fail
    refine hK.out _ _ ?_ (fun hHeld2 => ?_)
    · exact ⟨(blk_cell (show IsV2 _ bv c d from (by repeat (first | exact V7.out | refine blk_below ?_ (by assumption)))) 0).trans rfl, (blk_cell (show IsV2 _ bv c d from (by repeat (first | exact V7.out | refine blk_below ?_ (by assumption)))) 1).trans rfl, and14 (by repeat (first | exact Q7.out | refine blk_below ?_ (by assumption))) (by repeat (first | exact P7.out | refine blk_below ?_ (by assumption)))⟩
    clear hK zK hHeld
    have hHeld := hHeld2
    clear hHeld2
    try simp only [Act.put, List.setIfInBounds_toArray, List.set_cons_zero, List.set_cons_succ]
    refine wpAnyH_ready (rs := [6]) (by kernel_rfl) (by simp) ?_
    refine AllReadyH.cons (take_d rfl) (fun zK hK => ?_) AllReadyH.nil
    go_simp
    refine Calls.mono (catchpitref25_Origin.calls K o ik iz ok oz rest A0 c0 lq o' ik' iz' ok' oz' rest' A1 c1 lp d _ (HBL.out _ (by repeat (first | exact B7.out | refine below_step ?_ (by assumption) | apply below_alloc | apply below_drew1))).1 HC0.out (HBL.out _ (by repeat (first | exact B7.out | refine below_step ?_ (by assumption) | apply below_alloc | apply below_drew1))).2.1 HC1.out (HBL.out _ (by repeat (first | exact B7.out | refine below_step ?_ (by assumption) | apply below_alloc | apply below_drew1))).2.2 HK2.out) ?_
    rintro e w9 ⟨rfl, b9⟩
    go_wp2_with fail
    refine hK.out _ _ ?_ (fun hHeld2 => ?_)
    · exact ⟨(blk_cell (show IsV2 _ bv c d from (by repeat (first | exact V7.out | refine blk_below ?_ (by assumption)))) 0).trans rfl, (blk_cell (show IsV2 _ bv c d from (by repeat (first | exact V7.out | refine blk_below ?_ (by assumption)))) 1).trans rfl, and14 (by repeat (first | exact Q7.out | refine blk_below ?_ (by assumption))) (by repeat (first | exact P7.out | refine blk_below ?_ (by assumption)))⟩
    clear hK zK hHeld
    have hHeld := hHeld2
    clear hHeld2
    try simp only [Act.put, List.setIfInBounds_toArray, List.set_cons_zero, List.set_cons_succ]
    refine take_at (i := 7) (take_d rfl) ?_
    intro h_i
    refine wpAnyH_take (v := ?_) h_i (by kernel_rfl) (by kernel_rfl) (by kernel_rfl) (fun _ _ _ h => h) (Or.inl ⟨by rfl, ?_⟩) (by assumption) ?_
    case refine_2 => (intro w hSw; (try dsimp only at hSw); go_simp; (try with_reducible rfl))
    clear h_i
    try simp only [Act.put, List.setIfInBounds_toArray, List.set_cons_zero, List.set_cons_succ]
    refine take_at (i := 8) (take_d rfl) ?_
    intro h_i
    refine wpAnyH_take (v := ?_) h_i (by kernel_rfl) (by kernel_rfl) (by kernel_rfl) (fun _ _ _ h => h) (Or.inl ⟨by rfl, ?_⟩) (by assumption) ?_
    case refine_2 => (intro w hSw; (try dsimp only at hSw); go_simp; (try with_reducible rfl))
    clear h_i
    try simp only [Act.put, List.setIfInBounds_toArray, List.set_cons_zero, List.set_cons_succ]
    refine take_at (i := 9) (take_d rfl) ?_
    intro h_i
    refine wpAnyH_take (v := ?_) h_i (by kernel_rfl) (by kernel_rfl) (by kernel_rfl) (fun _ _ _ h => h) (Or.inl ⟨by rfl, ?_⟩) (by assumption) ?_
    case refine_2 => (intro w hSw; (try dsimp only at hSw); go_simp; (try with_reducible rfl))
    clear h_i
    try simp only [Act.put, List.setIfInBounds_toArray, List.set_cons_zero, List.set_cons_succ]
    refine take_at (i := 10) (take_d rfl) ?_
    intro h_i
    refine wpAnyH_take (v := ?_) h_i (by kernel_rfl) (by kernel_rfl) (by kernel_rfl) (fun _ _ _ h => h) (Or.inl ⟨by rfl, ?_⟩) (by assumption) ?_
    case refine_2 => (intro w hSw; (try dsimp only at hSw); go_simp; (try with_reducible rfl))
    clear h_i
    try simp only [Act.put, List.setIfInBounds_toArray, List.set_cons_zero, List.set_cons_succ]
    refine take_at (i := 12) (take_d rfl) ?_
    intro h_i
    refine wpAnyH_take (v := ?_) h_i (by kernel_rfl) (by kernel_rfl) (by kernel_rfl) (fun _ _ _ h => h) (Or.inl ⟨by rfl, ?_⟩) (by assumption) ?_
    case refine_2 => (intro w hSw; (try dsimp only at hSw); go_simp; (try with_reducible rfl))
    clear h_i
    try simp only [Act.put, List.setIfInBounds_toArray, List.set_cons_zero, List.set_cons_succ]
    refine take_at (i := 15) (take_d rfl) ?_
    intro h_i
    refine wpAnyH_take (v := ?_) h_i (by kernel_rfl) (by kernel_rfl) (by kernel_rfl) (fun _ _ _ h => h) (Or.inl ⟨by rfl, ?_⟩) (by assumption) ?_
    case refine_2 => (intro w hSw; (try dsimp only at hSw); go_simp; (try with_reducible rfl))
    clear h_i
    try simp only [Act.put, List.setIfInBounds_toArray, List.set_cons_zero, List.set_cons_succ]
    refine take_at (i := 16) (take_d rfl) ?_
    intro h_i
    refine wpAnyH_take (v := ?_) h_i (by kernel_rfl) (by kernel_rfl) (by kernel_rfl) (fun _ _ _ h => h) (Or.inl ⟨by rfl, ?_⟩) (by assumption) ?_
    case refine_2 => (intro w hSw; (try dsimp only at hSw); go_simp; (try with_reducible rfl))
    clear h_i
    try simp only [Act.put, List.setIfInBounds_toArray, List.set_cons_zero, List.set_cons_succ]
    refine wpAnyH_ready (rs := [11]) (by kernel_rfl) (by simp) ?_
    refine AllReadyH.cons (take_d rfl) (fun zK hK => ?_) AllReadyH.nil
    go_simp
    refine (of_calls _ _ _ _ _ _ _ _ _ _).mono ?_
    rintro e w10 ⟨rfl, b10⟩
    go_wp2_with fail
    refine hK.out _ _ ?_ (fun hHeld2 => ?_)
    · exact ⟨(blk_cell (show IsV2 _ bv c d from (by repeat (first | exact V7.out | refine blk_below ?_ (by assumption)))) 0).trans rfl, (blk_cell (show IsV2 _ bv c d from (by repeat (first | exact V7.out | refine blk_below ?_ (by assumption)))) 1).trans rfl, and14 (by repeat (first | exact Q7.out | refine blk_below ?_ (by assumption))) (by repeat (first | exact P7.out | refine blk_below ?_ (by assumption)))⟩
    clear hK zK hHeld
    have hHeld := hHeld2
    clear hHeld2
    try simp only [Act.put, List.setIfInBounds_toArray, List.set_cons_zero, List.set_cons_succ]
    refine wpAnyH_ready (rs := [13]) (by kernel_rfl) (by simp) ?_
    refine AllReadyH.cons (take_d rfl) (fun zK hK => ?_) AllReadyH.nil
    go_simp
    refine (of_calls _ _ _ _ _ _ _ _ _ _).mono ?_
    rintro e w11 ⟨rfl, b11⟩
    go_wp2_with fail
    refine hK.out _ _ ?_ (fun hHeld2 => ?_)
    · exact ⟨(blk_cell (show IsV2 _ bv c d from (by repeat (first | exact V7.out | refine blk_below ?_ (by assumption)))) 0).trans rfl, (blk_cell (show IsV2 _ bv c d from (by repeat (first | exact V7.out | refine blk_below ?_ (by assumption)))) 1).trans rfl, and14 (by repeat (first | exact Q7.out | refine blk_below ?_ (by assumption))) (by repeat (first | exact P7.out | refine blk_below ?_ (by assumption)))⟩
    clear hK zK hHeld
    have hHeld := hHeld2
    clear hHeld2
    try simp only [Act.put, List.setIfInBounds_toArray, List.set_cons_zero, List.set_cons_succ]
    refine wpAnyH_ready (rs := [14]) (by kernel_rfl) (by simp) ?_
    refine AllReadyH.cons (take_d rfl) (fun zK hK => ?_) AllReadyH.nil
    go_simp
    refine Calls.mono (reuse_Why.calls o ik iz ok oz rest A0 c0 lq o' ik' iz' ok' oz' rest' A1 c1 lp L _ (HBL.out _ (by repeat (first | exact B7.out | refine below_step ?_ (by assumption) | apply below_alloc | apply below_drew1))).1 HC0.out (HBL.out _ (by repeat (first | exact B7.out | refine below_step ?_ (by assumption) | apply below_alloc | apply below_drew1))).2.1 HC1.out (HBL.out _ (by repeat (first | exact B7.out | refine below_step ?_ (by assumption) | apply below_alloc | apply below_drew1))).2.2 HWF.out) ?_
    rintro e w12 ⟨v12, rfl, hR, b12⟩
    obtain ⟨A12, c12, rfl, hc12, hC12⟩ := Kd.R_reads hR
    have HC12 := Aside0.mk hC12
    have HD12 := Aside0.mk hc12
    clear hR hC12 hc12
    go_wp2_with fail
    refine hK.out _ _ ?_ (fun hHeld2 => ?_)
    · exact ⟨(blk_cell (show IsV2 _ bv c d from (by repeat (first | exact V7.out | refine blk_below ?_ (by assumption)))) 0).trans rfl, (blk_cell (show IsV2 _ bv c d from (by repeat (first | exact V7.out | refine blk_below ?_ (by assumption)))) 1).trans rfl, and14 (by repeat (first | exact Q7.out | refine blk_below ?_ (by assumption))) (by repeat (first | exact P7.out | refine blk_below ?_ (by assumption)))⟩
    clear hK zK hHeld
    have hHeld := hHeld2
    clear hHeld2
    try simp only [Act.put, List.setIfInBounds_toArray, List.set_cons_zero, List.set_cons_succ]
    refine wpAnyH_ready (rs := [17]) (by kernel_rfl) (by simp) ?_
    refine AllReadyH.cons (take_d rfl) (fun zK hK => ?_) AllReadyH.nil
    go_simp
    refine Calls.mono (catchpitref25_Why.calls (K + 1 + 1 + 1 + 1 + 1) o ik iz ok oz rest A0 c0 lq o' ik' iz' ok' oz' rest' A1 c1 lp L _ (HBL.out _ (by repeat (first | exact B7.out | refine below_step ?_ (by assumption) | apply below_alloc | apply below_drew1))).1 HC0.out (HBL.out _ (by repeat (first | exact B7.out | refine below_step ?_ (by assumption) | apply below_alloc | apply below_drew1))).2.1 HC1.out (HBL.out _ (by repeat (first | exact B7.out | refine below_step ?_ (by assumption) | apply below_alloc | apply below_drew1))).2.2 HK3.out) ?_
    rintro e w13 ⟨v13, rfl, hR, b13⟩
    obtain ⟨A13, c13, rfl, hc13, hC13⟩ := Kd.R_reads hR
    have HC13 := Aside0.mk hC13
    have HD13 := Aside0.mk hc13
    have HE12 := Aside0.mk (Kd.C_below HC12.out b13)
    clear hR hC13 hc13
    go_wp2_with fail
    refine hK.out _ _ ?_ (fun hHeld2 => ?_)
    · exact ⟨(blk_cell (show IsV2 _ bv c d from (by repeat (first | exact V7.out | refine blk_below ?_ (by assumption)))) 0).trans rfl, (blk_cell (show IsV2 _ bv c d from (by repeat (first | exact V7.out | refine blk_below ?_ (by assumption)))) 1).trans rfl, and14 (by repeat (first | exact Q7.out | refine blk_below ?_ (by assumption))) (by repeat (first | exact P7.out | refine blk_below ?_ (by assumption)))⟩
    clear hK zK hHeld
    have hHeld := hHeld2
    clear hHeld2
    try simp only [Act.put, List.setIfInBounds_toArray, List.set_cons_zero, List.set_cons_succ]
    refine wpAnyH_ready (rs := [18]) (by kernel_rfl) (by simp) ?_
    refine AllReadyH.cons (take_d rfl) (fun zK hK => ?_) AllReadyH.nil
    go_simp
    refine Calls.mono (catchpitref05_Texts.calls K A12 c12 L A13 c13 L true _ HE12.out HD12.out HC13.out HD13.out (HBL.out _ (by repeat (first | exact B7.out | refine below_step ?_ (by assumption) | apply below_alloc | apply below_drew1))).2.2 HK4.out) ?_
    rintro e w14 ⟨rfl, d14⟩
    have b14 := d14.below
    clear d14
    go_wp2_with fail
    refine hK.out _ _ ?_ (fun hHeld2 => ?_)
    · exact ⟨(blk_cell (show IsV2 _ bv c d from (by repeat (first | exact V7.out | refine blk_below ?_ (by assumption)))) 0).trans rfl, (blk_cell (show IsV2 _ bv c d from (by repeat (first | exact V7.out | refine blk_below ?_ (by assumption)))) 1).trans rfl, and14 (by repeat (first | exact Q7.out | refine blk_below ?_ (by assumption))) (by repeat (first | exact P7.out | refine blk_below ?_ (by assumption)))⟩
    clear hK zK hHeld
    have hHeld := hHeld2
    clear hHeld2
    try simp only [Act.put, List.setIfInBounds_toArray, List.set_cons_zero, List.set_cons_succ]
    refine take_at (i := 19) (take_d rfl) ?_
    intro h_i
    refine wpAnyH_take (v := ?_) h_i (by kernel_rfl) (by kernel_rfl) (by kernel_rfl) (fun _ _ _ h => h) (Or.inl ⟨by rfl, ?_⟩) (by assumption) ?_
    case refine_2 => (intro w hSw; (try dsimp only at hSw); go_simp; (try with_reducible rfl))
    clear h_i
    try simp only [Act.put, List.setIfInBounds_toArray, List.set_cons_zero, List.set_cons_succ]
    refine take_at (i := 20) (take_d rfl) ?_
    intro h_i
    refine wpAnyH_take (v := ?_) h_i (by kernel_rfl) (by kernel_rfl) (by kernel_rfl) (fun _ _ _ h => h) (Or.inl ⟨by rfl, ?_⟩) (by assumption) ?_
    case refine_2 => (intro w hSw; (try dsimp only at hSw); go_simp; (try with_reducible rfl))
    clear h_i
    try simp only [Act.put, List.setIfInBounds_toArray, List.set_cons_zero, List.set_cons_succ]
    refine take_at (i := 21) (take_d rfl) ?_
    intro h_i
    refine wpAnyH_take (v := ?_) h_i (by kernel_rfl) (by kernel_rfl) (by kernel_rfl) (fun _ _ _ h => h) (Or.inl ⟨by rfl, ?_⟩) (by assumption) ?_
    case refine_2 => (intro w hSw; (try dsimp only at hSw); go_simp; (try with_reducible rfl))
    clear h_i
    try simp only [Act.put, List.setIfInBounds_toArray, List.set_cons_zero, List.set_cons_succ]
    refine take_at (i := 24) (take_d rfl) ?_
    intro h_i
    refine wpAnyH_take (v := ?_) h_i (by kernel_rfl) (by kernel_rfl) (by kernel_rfl) (fun _ _ _ h => h) (Or.inl ⟨by rfl, ?_⟩) (by assumption) ?_
    case refine_2 => (intro w hSw; (try dsimp only at hSw); go_simp; (try with_reducible rfl))
    clear h_i
    try simp only [Act.put, List.setIfInBounds_toArray, List.set_cons_zero, List.set_cons_succ]
    refine wpAnyH_ready (rs := [22]) (by kernel_rfl) (by simp) ?_
    refine AllReadyH.cons (take_d rfl) (fun zK hK => ?_) AllReadyH.nil
    go_simp
    refine (of_calls _ _ _ _ _ _ _ _ _ _).mono ?_
    rintro e w15 ⟨rfl, b15⟩
    go_wp2_with fail
    refine hK.out _ _ ?_ (fun hHeld2 => ?_)
    · exact ⟨(blk_cell (show IsV2 _ bv c d from (by repeat (first | exact V7.out | refine blk_below ?_ (by assumption)))) 0).trans rfl, (blk_cell (show IsV2 _ bv c d from (by repeat (first | exact V7.out | refine blk_below ?_ (by assumption)))) 1).trans rfl, and14 (by repeat (first | exact Q7.out | refine blk_below ?_ (by assumption))) (by repeat (first | exact P7.out | refine blk_below ?_ (by assumption)))⟩
    clear hK zK hHeld
    have hHeld := hHeld2
    clear hHeld2
    try simp only [Act.put, List.setIfInBounds_toArray, List.set_cons_zero, List.set_cons_succ]
    refine wpAnyH_ready (rs := [23]) (by kernel_rfl) (by simp) ?_
    refine AllReadyH.cons (take_d rfl) (fun zK hK => ?_) AllReadyH.nil
    go_simp
    refine Calls.mono (reuse_Well.calls o ik iz ok oz rest A0 c0 lq wq _ (HBL.out _ (by repeat (first | exact B7.out | refine below_step ?_ (by assumption) | apply below_alloc | apply below_drew1))).1 HC0.out (HBL.out _ (by repeat (first | exact B7.out | refine below_step ?_ (by assumption) | apply below_alloc | apply below_drew1))).2.2 HWQ'.out) ?_
    rintro e w16 ⟨rfl, b16⟩
    go_wp2_with fail
    refine hK.out _ _ ?_ (fun hHeld2 => ?_)
    · exact ⟨(blk_cell (show IsV2 _ bv c d from (by repeat (first | exact V7.out | refine blk_below ?_ (by assumption)))) 0).trans rfl, (blk_cell (show IsV2 _ bv c d from (by repeat (first | exact V7.out | refine blk_below ?_ (by assumption)))) 1).trans rfl, and14 (by repeat (first | exact Q7.out | refine blk_below ?_ (by assumption))) (by repeat (first | exact P7.out | refine blk_below ?_ (by assumption)))⟩
    clear hK zK hHeld
    have hHeld := hHeld2
    clear hHeld2
    try simp only [Act.put, List.setIfInBounds_toArray, List.set_cons_zero, List.set_cons_succ]
    refine wpAnyH_ready (rs := [25]) (by kernel_rfl) (by simp) ?_
    refine AllReadyH.cons (take_d rfl) (fun zK hK => ?_) AllReadyH.nil
    go_simp
    refine Calls.mono (catchpitref25_Well.calls o ik iz ok oz rest A0 c0 lq wq _ (HBL.out _ (by repeat (first | exact B7.out | refine below_step ?_ (by assumption) | apply below_alloc | apply below_drew1))).1 HC0.out (HBL.out _ (by repeat (first | exact B7.out | refine below_step ?_ (by assumption) | apply below_alloc | apply below_drew1))).2.2 HWQ.out) ?_
    rintro e w17 ⟨rfl, b17⟩
    go_wp2_with fail
    refine hK.out _ _ ?_ (fun hHeld2 => ?_)
    · exact ⟨(blk_cell (show IsV2 _ bv c d from (by repeat (first | exact V7.out | refine blk_below ?_ (by assumption)))) 0).trans rfl, (blk_cell (show IsV2 _ bv c d from (by repeat (first | exact V7.out | refine blk_below ?_ (by assumption)))) 1).trans rfl, and14 (by repeat (first | exact Q7.out | refine blk_below ?_ (by assumption))) (by repeat (first | exact P7.out | refine blk_below ?_ (by assumption)))⟩
    clear hK zK hHeld
    have hHeld := hHeld2
    clear hHeld2
    try simp only [Act.put, List.setIfInBounds_toArray, List.set_cons_zero, List.set_cons_succ]
    refine take_at (i := 26) (take_d rfl) ?_
    intro h_i
    refine wpAnyH_take (v := ?_) h_i (by kernel_rfl) (by kernel_rfl) (by kernel_rfl) (fun _ _ _ h => h) (Or.inl ⟨by rfl, ?_⟩) (by assumption) ?_
    case refine_2 => (intro w hSw; (try dsimp only at hSw); go_simp; (try with_reducible rfl))
    clear h_i
    try simp only [Act.put, List.setIfInBounds_toArray, List.set_cons_zero, List.set_cons_succ]
    refine take_at (i := 27) (take_d rfl) ?_
    intro h_i
    refine wpAnyH_take (v := ?_) h_i (by kernel_rfl) (by kernel_rfl) (by kernel_rfl) (fun _ _ _ h => h) (Or.inl ⟨by rfl, ?_⟩) (by assumption) ?_
    case refine_2 => (intro w hSw; (try dsimp only at hSw); go_simp; (try with_reducible rfl))
    clear h_i
    try simp only [Act.put, List.setIfInBounds_toArray, List.set_cons_zero, List.set_cons_succ]
    refine take_at (i := 28) (take_d rfl) ?_
    intro h_i
    refine wpAnyH_take (v := ?_) h_i (by kernel_rfl) (by kernel_rfl) (by kernel_rfl) (fun _ _ _ h => h) (Or.inl ⟨by rfl, ?_⟩) (by assumption) ?_
    case refine_2 => (intro w hSw; (try dsimp only at hSw); go_simp; (try with_reducible rfl))
    clear h_i
    try simp only [Act.put, List.setIfInBounds_toArray, List.set_cons_zero, List.set_cons_succ]
    refine wpAnyH_done (by kernel_rfl) ?_ _
    go_wp2
    go_ret
    exact ⟨rfl, (by repeat (first | exact B7.out | refine below_step ?_ (by assumption) | apply below_alloc | apply below_drew1))⟩
end Go.Proofs.YtofegjgiocljlaaDoor.Pg
end
section
namespace Go.Proofs.YtofegjgiocljlaaDoor.Pure
open Go.RowKit Go.Proofs.YtofegjgiocljlaaDoorH Go.Proofs.YtofegjgiocljlaaDoor.Pg Go.Proofs.YtofegjgiocljlaaDoorW.PrintWords Go.Proofs.YtofegjgiocljlaaDoorW.PrintLast
theorem ReuseJudges (q p : HalfD) (hq : q.l.length * 32 ≤ 140737488351232 ∧ ∀ f ∈ q.l, (f.f0.size ≤ 140737488351232 ∧ f.f1.size ≤ 140737488351232)) (hp : p.l.length * 32 ≤ 140737488351232 ∧ ∀ f ∈ p.l, (f.f0.size ≤ 140737488351232 ∧ f.f1.size ≤ 140737488351232)) : catchpitlaw25_ReuseJudges.f q p = some true :=
  if_pos ⟨⟨by omega, hq.2⟩, ⟨by omega, hp.2⟩⟩
end Go.Proofs.YtofegjgiocljlaaDoor.Pure
end
section
namespace Go.Proofs.YtofegjgiocljlaaDoorH
open Go.RowKit Go.ChangeShapes Go.WideShapes Go.ChangeAt
theorem two_of {α : Type} {l : List α} (h : l.length = 2) : ∃ a b, l = [a, b] := by
  match l, h with
  | [a, b], _ => exact ⟨a, b, rfl⟩
theorem three_of {α : Type} {l : List α} (h : l.length = 3) : ∃ a b c, l = [a, b, c] := by
  match l, h with
  | [a, b, c], _ => exact ⟨a, b, c, rfl⟩
theorem six_of {α : Type} {l : List α} (h : l.length = 6) : ∃ a b c d e f, l = [a, b, c, d, e, f] := by
  match l, h with
  | [a, b, c, d, e, f], _ => exact ⟨a, b, c, d, e, f, rfl⟩
theorem cells_of_one {W : World} {cs : List Value} {y : DataW Unit × List MemPlace} {m : Nat} {x0 : Int}
    (hd : DataW.trod (fun _ => ()) Tryd.prog W 0 (fun _ => true) false m 5 cs = some y) (hy : y.1 = .lit (.int .u8 x0)) : cs = [.int .u8 x0] := by
  obtain ⟨n, e1, e2, _⟩ := DataW.trod_int Tryd.underlying5 hd
  rw [e2] at hy
  simp only [DataW.lit.injEq, Lit.int.injEq, true_and] at hy
  rw [e1, hy]
theorem cells_of_pair {W : World} {cs : List Value} {y : DataW Unit × List MemPlace} {m : Nat} {x0 x1 : Int}
    (hd : DataW.trod (fun _ => ()) Tryd.prog W 0 (fun _ => true) false m 95 cs = some y) (hy : y.1 = .agg [.lit (.int .u8 x0), .lit (.int .u8 x1)]) :
    cs = [.int .u8 x0, .int .u8 x1] := by
  have c5 : Tryd.prog.cellsOf 5 = 1 := by kernel_rfl
  have c2 : Tryd.prog.cellsOf 95 = 2 := by kernel_rfl
  obtain ⟨xs, m, _, ex, hn, hl, hel⟩ := DataW.trod_array Tryd.underlying95 hd
  rw [c2] at hn
  obtain ⟨a, b, rfl⟩ := two_of hn
  obtain ⟨u, v, rfl⟩ := two_of hl
  · rw [ex] at hy
    simp only [List.map_cons, List.map_nil, DataW.agg.injEq, List.cons.injEq, and_true] at hy
    have h0 := hel 0 (by omega)
    have h1 := hel 1 (by omega)
    simp only [c5] at h0 h1
    have e0 := cells_of_one (y := u) (by simpa using h0) hy.1
    have e1 := cells_of_one (y := v) (by simpa using h1) hy.2
    simp at e0 e1
    rw [e0, e1]
theorem cells_of_pairs {W : World} {cs : List Value} {y : DataW Unit × List MemPlace} {m : Nat} {x0 x1 x2 x3 x4 x5 : Int}
    (hd : DataW.trod (fun _ => ()) Tryd.prog W 0 (fun _ => true) false m 96 cs = some y)
    (hy : y.1 = .agg [.agg [.lit (.int .u8 x0), .lit (.int .u8 x1)], .agg [.lit (.int .u8 x2), .lit (.int .u8 x3)], .agg [.lit (.int .u8 x4), .lit (.int .u8 x5)]]) :
    cs = [.int .u8 x0, .int .u8 x1, .int .u8 x2, .int .u8 x3, .int .u8 x4, .int .u8 x5] := by
  have c2 : Tryd.prog.cellsOf 95 = 2 := by kernel_rfl
  have c6 : Tryd.prog.cellsOf 96 = 6 := by kernel_rfl
  obtain ⟨xs, m, _, ex, hn, hl, hel⟩ := DataW.trod_array Tryd.underlying96 hd
  rw [c6] at hn
  obtain ⟨a, b, c, d, e, f, rfl⟩ := six_of hn
  obtain ⟨u, v, z, rfl⟩ := three_of hl
  · rw [ex] at hy
    simp only [List.map_cons, List.map_nil, DataW.agg.injEq, List.cons.injEq, and_true] at hy
    have h0 := hel 0 (by omega)
    have h1 := hel 1 (by omega)
    have h2 := hel 2 (by omega)
    simp only [c2] at h0 h1 h2
    have e0 := cells_of_pair (y := u) (by simpa using h0) hy.1
    have e1 := cells_of_pair (y := v) (by simpa using h1) hy.2.1
    have e2 := cells_of_pair (y := z) (by simpa using h2) hy.2.2
    simp at e0 e1 e2
    rw [e0.1, e0.2, e1.1, e1.2, e2.1, e2.2]
theorem tabOk_of_laid {W : World} {L : List (String × DataW Unit)} (h : laidMetH Tryd.prog L W) (hp : (L.all fun x => x.2.handleName?.isNone) = true)
    (hf : L.filter (fun x => x.1 == "catchpit/octet.ends") = [("catchpit/octet.ends", Go.Proofs.YtofegjgiocljlaaDoor.Rows.laid_catchpit_octet_ends)]) (hs : W.ShapedOpen Tryd.prog) : TabOk W := by
  rw [MakeChecks.laidMetH_plain _ _ _ hp] at h
  have h2 := laidMet.filter (fun x => x.1 == "catchpit/octet.ends") h
  rw [hf] at h2
  obtain ⟨ps, ⟨g, t, cs, fuel, p, q, hg, ht, hv, hd, _, _⟩, _, _⟩ := h2
  obtain rfl := Option.some.inj ((show Tryd.prog.globalNamed "catchpit/octet.ends" = some 0 by kernel_rfl).symm.trans hg)
  obtain rfl := Option.some.inj ((show (Tryd.prog.globals[0]?).map (·.type) = some 96 by kernel_rfl).symm.trans ht)
  have e := cells_of_pairs hd rfl
  have hc := World.var?_cell hg hv
  have at_ : ∀ j, cs[j]? = cs.toList[j]? := fun j => (Array.getElem?_toList ..).symm
  rw [e] at at_
  exact ⟨(hc 0).trans (at_ 0), (hc 1).trans (at_ 1), (hc 2).trans (at_ 2), (hc 3).trans (at_ 3), (hc 4).trans (at_ 4), (hc 5).trans (at_ 5), MxOk.of_shaped hs⟩
end Go.Proofs.YtofegjgiocljlaaDoorH
end
section
namespace Go.Proofs.YtofegjgiocljlaaDoorH
open Go
variable {H : Type} {enc : TypeId × Value → H}
theorem returns_and_shaped {a : Assume} {C : Checked} {os : Os} {f : FuncId} {fn : Func} {s : ChangeSpec} {conds : List PathCond} {apart fresh handsOn again : Bool} {X : World → Array Value → Prop}
    (hX : ∀ (w w' : World) (args : Array Value), w.heap = w'.heap → X w args → X w' args)
    (own : ownKnob C.prog.godebug = none) (started : os.Started) (noInit : C.prog.inits.idxOf? f = none) (hfn : C.prog.funcs[f]? = some fn)
    (witness : ∃ (w : World) (tape : Tape) (i : Input), w.os = os ∧ (w.forCall tape i).Shaped C.prog ∧ i.vars = [] ∧ Input.okWide C.prog (w.forCall tape i) .any w.heap.size f i ∧
      ((s.pre enc C.prog fn conds apart (w.forCall tape i).memory i.args ∧ X (w.forCall tape i).memory i.args) ∧ sizedMet enc C.prog fn (OpenSpec.ofChange s) apart (w.forCall tape i).memory i.args) ∧ a.holds C.prog (lone (Frame.enter C.prog f i.args .normal) [] (w.forCall tape i)))
    (contract : ∀ (W : World) (base : Nat) (args : Array Value) (ds gs : List (DataW H)) (before : List MemPlace),
      (∀ (j : Nat) t v, fn.params[j]? = some t → args[j]? = some v → Value.okWide C.prog W .any base t v) →
      DataW.Whole enc C.prog fn.params.toList s.vars apart W args.toList ds gs before →
      conds.all (PathCond.test C.prog ⟨fn.params.toList, ds, s.plain.varTypes C.prog, gs⟩) = true →
      (DataW.weightsEach C.prog (fn.params.toList ++ s.plain.varTypes C.prog) (ds ++ gs)).all (· ≤ reachBytes) = true → X W args →
      W.ShapedOpen C.prog →
      a.holds C.prog (lone (Frame.enter C.prog f args .normal) [] W) →
      Calls C.prog f args W fun e W' => ∃ v, e = .returned v ∧ s.post enc C.prog fn apart fresh handsOn again W args v W') :
    ReturnsInHanded a C os f .any (fun w args => (s.pre enc C.prog fn conds apart w args ∧ X w args) ∧ sizedMet enc C.prog fn (OpenSpec.ofChange s) apart w args) (s.post enc C.prog fn apart fresh handsOn again) := by
  refine returnsInHanded_of_calls own started noInit witness ?_
  intro w tape i _ hsh _ hok hpre hholds
  obtain ⟨_, _, _, fn', hfn', _, _, _, _, hval⟩ := hok
  have e : fn' = fn := Option.some.inj (hfn'.symm.trans hfn)
  subst e
  obtain ⟨⟨⟨ds, gs, before, hw, hc⟩, hx⟩, hz⟩ := hpre
  have hw' := DataW.Whole.of_heap (w' := w.forCall tape i) (by rfl) hw
  refine (contract (w.forCall tape i) w.heap.size i.args ds gs before hval hw' hc (hz.weights hw) (hX _ _ _ (by rfl) hx) hsh hholds).mono fun e W' ⟨v, he, hp⟩ => ?_
  subst he
  exact ChangeSpec.post_blind hp
end Go.Proofs.YtofegjgiocljlaaDoorH
end
