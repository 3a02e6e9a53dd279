import Derived.Test.YtofegjgiocljlaaDoorZReuseClosesP5
import Derived.Test.YtofegjgiocljlaaDoorZReuseClosesP2
import Derived.Deep.RegionHeld3
import Derived.Test.YtofegjgiocljlaaDoorRows
import Derived.LaidSub
import Derived.MakeChecks
import Derived.ProofKit
import Derived.OpenShut
import Derived.LaidMore
import Derived.HandedShaped
import Derived.Handed
import Derived.SizedLaws
section
namespace Go.Proofs.YtofegjgiocljlaaDoor.Pg
open Go.RowKit Go.Proofs.YtofegjgiocljlaaDoorH Go.Proofs.YtofegjgiocljlaaDoorW.PrintWords Go.Proofs.YtofegjgiocljlaaDoorW.PrintLast Go.Proofs.YtofegjgiocljlaaDoorW.PrintMore Go.Proofs.YtofegjgiocljlaaDoor.Pr
set_option maxHeartbeats 16000000 in
set_option maxRecDepth 100000 in
theorem closes_false (q : HalfD) (A0 : Option Addr) (c0 : Nat) (p : HalfD) (A1 : Option Addr) (c1 : Nat) (r : Bool) (w : World) (hr0 : Kd.C k37 w A0 q.l.length q.l) (hc0 : q.l.length ≤ c0) (hr1 : Kd.C k37 w A1 p.l.length p.l) (hc1 : p.l.length ≤ c1) (hG : TabOk w) (h : catchpitlaw25_ReuseCloses.f q p false = some r) :
    Calls Tryd.prog 4 #[.agg #[.int .i64 q.o, .int .i64 q.ik, .int .u64 q.iz, .int .i64 q.ok, .int .u64 q.oz, .int .i64 q.rest, .slice A0 q.l.length c0], .agg #[.int .i64 p.o, .int .i64 p.ik, .int .u64 p.iz, .int .i64 p.ok, .int .u64 p.oz, .int .i64 p.rest, .slice A1 p.l.length c1], .bool false] w fun e w' => e = .returned (.bool r) ∧ Below w.heap.size w w' := by
  unfold catchpitlaw25_ReuseCloses.f at h
  split at h
  case isFalse => cases h
  rename_i hf
  injection h with h
  subst h
  obtain ⟨o, ik, iz, ok, oz, rest, lq⟩ := q
  obtain ⟨o', ik', iz', ok', oz', rest', lp⟩ := p
  have HSQ := Aside0.mk (show Small1 lq from hf.1.2)
  have HSP := Aside0.mk (show Small1 lp from hf.2.2)
  obtain ⟨K1, g1⟩ := great_ev o ik iz ok oz rest lq HSQ.out hf.1.1
  obtain ⟨K2, g2⟩ := great_ev o' ik' iz' ok' oz' rest' lp HSP.out hf.2.1
  have HG1 := Aside0.mk g1
  have HG2 := Aside0.mk g2
  have HR0 := Aside0.mk (show Kd.C k37 w A0 lq.length lq from hr0)
  have HR1 := Aside0.mk (show Kd.C k37 w A1 lp.length lp from hr1)
  have HC0 := Aside0.mk (show lq.length ≤ c0 from hc0)
  have HC1 := Aside0.mk (show lp.length ≤ c1 from hc1)
  have HG := Aside0.mk hG
  clear hf g1 g2 hr0 hr1 hc0 hc1 hG
  have HBL := Aside0.mk (fun W (h : Below w.heap.size w W) => (⟨Kd.C_below HR0.out h, Kd.C_below HR1.out h, HG.out.below h⟩ : Kd.C k37 W A0 lq.length lq ∧ Kd.C k37 W A1 lp.length lp ∧ TabOk W))
  dsimp only
  have B0 := Aside0.mk (show Below w.heap.size w ((w.alloc (.cells #[.int .i64 o, .int .i64 ik, .int .u64 iz, .int .i64 ok, .int .u64 oz, .int .i64 rest, .slice A0 lq.length c0] 27)).alloc (.cells #[.int .i64 o', .int .i64 ik', .int .u64 iz', .int .i64 ok', .int .u64 oz', .int .i64 rest', .slice A1 lp.length c1] 27)) from below_alloc (below_alloc (Below.refl _ _) _) _)
  have Q0 := Aside0.mk (show HaAt ((w.alloc (.cells #[.int .i64 o, .int .i64 ik, .int .u64 iz, .int .i64 ok, .int .u64 oz, .int .i64 rest, .slice A0 lq.length c0] 27)).alloc (.cells #[.int .i64 o', .int .i64 ik', .int .u64 iz', .int .i64 ok', .int .u64 oz', .int .i64 rest', .slice A1 lp.length c1] 27)) w.heap.size o ik iz ok oz rest A0 lq.length c0 from blk_alloc (heap_alloc_new w _) _)
  have P0 := Aside0.mk (show HaAt ((w.alloc (.cells #[.int .i64 o, .int .i64 ik, .int .u64 iz, .int .i64 ok, .int .u64 oz, .int .i64 rest, .slice A0 lq.length c0] 27)).alloc (.cells #[.int .i64 o', .int .i64 ik', .int .u64 iz', .int .i64 ok', .int .u64 oz', .int .i64 rest', .slice A1 lp.length c1] 27)) (w.heap.size + 1) o' ik' iz' ok' oz' rest' A1 lp.length c1 by
    have h := heap_alloc_new (w.alloc (.cells #[.int .i64 o, .int .i64 ik, .int .u64 iz, .int .i64 ok, .int .u64 oz, .int .i64 rest, .slice A0 lq.length c0] 27)) (.cells #[.int .i64 o', .int .i64 ik', .int .u64 iz', .int .i64 ok', .int .u64 oz', .int .i64 rest', .slice A1 lp.length c1] 27)
    rw [World.size_alloc] at h
    exact h)
  go_enter Tryd.func4, Tryd.ntmps4
  go_wp2_with fail
  refine (wakes25_calls _ (HBL.out _ B0.out).2.2).mono ?_
  rintro e w1 ⟨rfl, b1⟩
  have B1 := Aside0.mk (B0.out.trans (b1.mono B0.out.size))
  have Q1 := Aside0.mk (Q0.out.below b1)
  have P1 := Aside0.mk (P0.out.below b1)
  clear b1
  obtain ⟨q0, q1, q2, q3, q4, q5, q6⟩ := Q1.out.all
  obtain ⟨p0, p1, p2, p3, p4, p5, p6⟩ := P1.out.all
  go_wp2_with fail
  refine (catchpitref25_Great.calls K1 o ik iz ok oz rest A0 c0 lq _ w1 (HBL.out _ B1.out).1 HC0.out (HBL.out _ B1.out).2.2 HG1.out).mono ?_
  rintro e w2 ⟨rfl, b2⟩
  have B2 := Aside0.mk (B1.out.trans (b2.mono B1.out.size))
  have Q2 := Aside0.mk (Q1.out.below b2)
  have P2 := Aside0.mk (P1.out.below b2)
  clear b2
  clear q0 q1 q2 q3 q4 q5 q6 p0 p1 p2 p3 p4 p5 p6
  by_cases hg : 2000 < sumF lq
  · rw [decide_eq_true hg]
    clear hg
    go_wp2
    go_ret
    exact ⟨rfl, B2.out⟩
  rw [decide_eq_false hg]
  have HSF := Aside0.mk (show sumF lq ≤ 2000 by omega)
  clear hg
  obtain ⟨q0, q1, q2, q3, q4, q5, q6⟩ := Q2.out.all
  obtain ⟨p0, p1, p2, p3, p4, p5, p6⟩ := P2.out.all
  go_wp2_with fail
  refine (catchpitref25_Great.calls K2 o' ik' iz' ok' oz' rest' A1 c1 lp _ w2 (HBL.out _ B2.out).2.1 HC1.out (HBL.out _ B2.out).2.2 HG2.out).mono ?_
  rintro e w3 ⟨rfl, b3⟩
  have B3 := Aside0.mk (B2.out.trans (b3.mono B2.out.size))
  have Q3 := Aside0.mk (Q2.out.below b3)
  have P3 := Aside0.mk (P2.out.below b3)
  clear b3
  clear q0 q1 q2 q3 q4 q5 q6 p0 p1 p2 p3 p4 p5 p6
  by_cases hg : 2000 < sumF lp
  · rw [decide_eq_true hg]
    clear hg
    go_wp2
    go_ret
    exact ⟨rfl, B3.out⟩
  rw [decide_eq_false hg]
  have HSF' := Aside0.mk (show sumF lp ≤ 2000 by omega)
  clear hg
  go_upto_region 8 with (fail)
  have HBC := Aside0.mk (blk_lt P3.out)
  obtain ⟨bc, hbc⟩ : ∃ n, w3.heap.size = n := ⟨_, rfl⟩
  rw [hbc] at HBC
  refine wp_at (fun W' => W'.heap[bc]? = some (.cells #[.string ⟨#[67, 111, 110, 110, 101, 99, 116, 105, 111, 110]⟩, .string ⟨#[120, 44, 32, 99, 108, 111, 115, 101]⟩] 37 (0, 0)) ∧ HaAt W' w.heap.size o ik iz ok oz rest A0 lq.length c0 ∧ HaAt W' (w.heap.size + 1) o' ik' iz' ok' oz' rest' A1 lp.length c1 ∧ Below w.heap.size w W') ?_ ?_
  · subst hbc
    have hl0 : w.heap.size < w3.heap.size := blk_lt Q3.out
    have hl1 : w.heap.size + 1 < w3.heap.size := blk_lt P3.out
    refine ⟨?_, ?_, ?_, ?_⟩
    · first
      | exact heap_alloc_new w3 _
      | exact blk_put (blk_put (heap_alloc_new w3 _) 0 _ rfl) 1 _ rfl
    · repeat (first | exact Q3.out | refine blk_alloc ?_ _ | (refine blk_far ?_ (by dsimp only; omega) _))
    · repeat (first | exact P3.out | refine blk_alloc ?_ _ | (refine blk_far ?_ (by dsimp only; omega) _))
    · repeat (first | exact B3.out | (refine Below.setCell ?_ (by dsimp only; omega) _) | apply below_alloc)
  rintro wa ⟨c7, x7, y7, b7⟩
  subst hbc
  have C7 := Aside0.mk c7
  have Q7 := Aside0.mk x7
  have P7 := Aside0.mk y7
  have B7 := Aside0.mk b7
  have CQ7 := Aside0.mk (HBL.out _ b7).1
  have CP7 := Aside0.mk (HBL.out _ b7).2.1
  clear c7 x7 y7 b7
  generalize w3.heap.size = bc at *
  go_cut [7] (fun u7 wc => ∃ v6 : Value, u7 = .pointer (some ⟨bc, 0, none⟩) ∧ Aside0 (wc.heap[(w.heap.size + 1)]? = some (.cells #[.int .i64 o', .int .i64 ik', .int .u64 iz', .int .i64 ok', .int .u64 oz', .int .i64 rest', v6] 27 (0, 0))) ∧ Aside0 (HaAt wc w.heap.size o ik iz ok oz rest A0 lq.length c0) ∧ Aside0 (RowF wc wa.heap.size v6 (lp ++ [cFld])) ∧ Aside0 (Below w.heap.size w wc))
  case first =>
    refine wp_region_held_drew (S := (fun W => W.cell? ⟨bc, 0, none⟩ = some (.string ⟨#[67, 111, 110, 110, 101, 99, 116, 105, 111, 110]⟩) ∧ W.cell? ⟨bc, 1, none⟩ = some (.string ⟨#[120, 44, 32, 99, 108, 111, 115, 101]⟩))) (by kernel_rfl) ?_ (fun hHeld => ?_)
    · exact ⟨(blk_cell C7.out 0).trans rfl, (blk_cell C7.out 1).trans rfl⟩
    refine take_at (i := 1) (take_d rfl) ?_
    intro h_i
    refine wpAnyH_take (v := ?_) h_i (by kernel_rfl) (by kernel_rfl) (by kernel_rfl) (fun _ _ _ h => h) (Or.inl ⟨by rfl, ?_⟩) (by assumption) ?_
    case refine_2 => (intro w hSw; (try dsimp only at hSw); go_simp; (try with_reducible rfl))
    clear h_i
    try simp only [Act.put, List.setIfInBounds_toArray, List.set_cons_zero, List.set_cons_succ]
    refine take_at (i := 4) (take_d rfl) ?_
    intro h_i
    refine wpAnyH_take (v := ?_) h_i (by kernel_rfl) (by kernel_rfl) (by kernel_rfl) (fun _ _ _ h => h) (Or.inl ⟨by rfl, ?_⟩) (by assumption) ?_
    case refine_2 => (intro w hSw; (try dsimp only at hSw); go_simp; (try with_reducible rfl))
    clear h_i
    try simp only [Act.put, List.setIfInBounds_toArray, List.set_cons_zero, List.set_cons_succ]
    refine anyH_at (fun W' => Below wa.heap.size wa W') (below_drew1 (Below.refl _ _)) ?_ hHeld
    clear hHeld
    rintro W0 z0 hHeld
    have HB0 := Aside0.mk z0
    clear z0
    refine wpAnyH_ready (rs := [0, 2, 5]) (by kernel_rfl) (by simp) ?_
    refine AllReadyH.cons (take_d rfl) (fun zK hK => ?_) ?_
    · go_simp
      refine hK.out _ _ ?_ (fun hHeld2 => ?_)
      · exact ⟨(blk_cell (blk_below C7.out (below_alloc HB0.out _)) 0).trans rfl, (blk_cell (blk_below C7.out (below_alloc HB0.out _)) 1).trans rfl⟩
      clear hK zK hHeld
      have hHeld := hHeld2
      clear hHeld2
      try simp only [Act.put, List.setIfInBounds_toArray, List.set_cons_zero, List.set_cons_succ]
      refine anyH_at (fun W' => W'.heap[W0.heap.size]? = some (.cells #[] 37 (0, 0)) ∧ Below wa.heap.size wa W') ⟨new_at _ rfl, HB0.out.alloc HB0.out.size _⟩ ?_ hHeld
      clear hHeld
      rintro W1 ⟨z0, z1⟩ hHeld
      have HBE := Aside0.mk (show wa.heap.size ≤ W0.heap.size from HB0.out.size)
      have HE := Aside0.mk z0
      clear z0
      have HB1 := Aside0.mk z1
      clear z1
      refine wpAnyH_ready (rs := [2, 5]) (by kernel_rfl) (by simp) ?_
      refine AllReadyH.cons (take_d rfl) (fun zK hK => ?_) ?_
      · have q6 := (blk_cell (blk_below P7.out HB1.out) 6).trans rfl
        go_simp
        clear q6
        refine hK.out _ _ ?_ (fun hHeld2 => ?_)
        · exact hHeld
        clear hK zK hHeld
        have hHeld := hHeld2
        clear hHeld2
        try simp only [Act.put, List.setIfInBounds_toArray, List.set_cons_zero, List.set_cons_succ]
        refine wpAnyH_ready (rs := [3, 5]) (by kernel_rfl) (by simp) ?_
        refine AllReadyH.cons (take_d rfl) (fun zK hK => ?_) ?_
        · rw [if_pos (by rfl)]
          refine wp_plus (W0 := wa) wa.heap.size _ _ 25 (.agg #[.string ⟨#[]⟩, .string ⟨#[]⟩]) rfl Tryd.underlying25 (by kernel_rfl) (by rfl) _ [] lp A1 c1 rfl rfl (row_empty HE.out HBE.out) (Kd.C_below CP7.out HB1.out) HB1.out HB1.out.size (by have := HSF'.out; have := sumF_length lp; rw [List.length_nil]; omega) ?_
          intro v1 W2 hv hb hz hk
          refine hK.out _ _ ?_ (fun hHeld2 => ?_)
          · exact ⟨(blk_cell (blk_below C7.out hb) 0).trans rfl, (blk_cell (blk_below C7.out hb) 1).trans rfl⟩
          clear hK zK hHeld
          have hHeld := hHeld2
          clear hHeld2
          try simp only [Act.put, List.setIfInBounds_toArray, List.set_cons_zero, List.set_cons_succ]
          have HV := Aside0.mk (show RowF W2 wa.heap.size v1 lp from hv)
          have HB2 := Aside0.mk hb
          clear hv hb hz hk
          refine wpAnyH_ready (rs := [5]) (by kernel_rfl) (by simp) ?_
          refine AllReadyH.cons (take_d rfl) (fun zK hK => ?_) AllReadyH.nil
          go_simp
          refine hK.out _ _ ?_ (fun hHeld2 => ?_)
          · exact ⟨(blk_cell (blk_below C7.out (below_alloc HB2.out _)) 0).trans rfl, (blk_cell (blk_below C7.out (below_alloc HB2.out _)) 1).trans rfl⟩
          clear hK zK hHeld
          have hHeld := hHeld2
          clear hHeld2
          try simp only [Act.put, List.setIfInBounds_toArray, List.set_cons_zero, List.set_cons_succ]
          refine anyH_at (fun W' => W'.heap[W2.heap.size]? = some (.cells #[.string ⟨#[67, 111, 110, 110, 101, 99, 116, 105, 111, 110]⟩, .string ⟨#[120, 44, 32, 99, 108, 111, 115, 101]⟩] 37 (0, 0)) ∧ Below wa.heap.size wa W' ∧ RowF W' wa.heap.size v1 lp) ⟨new_at _ rfl, HB2.out.alloc HB2.out.size _, HV.out.alloc _⟩ ?_ hHeld
          clear hHeld
          rintro W3 ⟨z0, z1, z2⟩ hHeld
          have H5 := Aside0.mk z0
          clear z0
          have HB3 := Aside0.mk z1
          clear z1
          have HV := Aside0.mk z2
          clear z2
          refine wpAnyH_ready (rs := [6]) (by kernel_rfl) (by simp) ?_
          refine AllReadyH.cons (take_d rfl) (fun zK hK => ?_) AllReadyH.nil
          rw [if_pos (by rfl)]
          refine wp_plus (W0 := wa) wa.heap.size _ _ 25 (.agg #[.string ⟨#[]⟩, .string ⟨#[]⟩]) rfl Tryd.underlying25 (by kernel_rfl) (by rfl) v1 lp [cFld] (some ⟨W2.heap.size, 0, none⟩) 1 rfl rfl HV.out (C_one cFld H5.out) HB3.out HB3.out.size (by have := HSF'.out; have := sumF_length lp; rw [List.length_singleton]; omega) ?_
          intro v6 W4 hv hb hz hk
          refine hK.out _ _ ?_ (fun hHeld2 => ?_)
          · exact ⟨(blk_cell (blk_below C7.out hb) 0).trans rfl, (blk_cell (blk_below C7.out hb) 1).trans rfl⟩
          clear hK zK hHeld
          have hHeld := hHeld2
          clear hHeld2
          try simp only [Act.put, List.setIfInBounds_toArray, List.set_cons_zero, List.set_cons_succ]
          have HV6 := Aside0.mk hv
          have HB4 := Aside0.mk hb
          clear hv hb hz hk
          refine take_at (i := 7) (take_d rfl) ?_
          intro h_i
          refine wpAnyH_take (v := ?_) h_i (by kernel_rfl) (by kernel_rfl) (by kernel_rfl) (fun _ _ _ h => h) (Or.inl ⟨by rfl, ?_⟩) (by assumption) ?_
          case refine_2 => (intro w hSw; (try dsimp only at hSw); go_simp; (try with_reducible rfl))
          clear h_i
          try simp only [Act.put, List.setIfInBounds_toArray, List.set_cons_zero, List.set_cons_succ]
          refine wpAnyH_ready (rs := [8]) (by kernel_rfl) (by simp) ?_
          refine AllReadyH.cons (take_d rfl) (fun zK hK => ?_) AllReadyH.nil
          obtain ⟨A6, c6, e6, hc6, hC6⟩ := HV6.out.reads
          subst e6
          clear hc6 hC6
          rw [show (lp ++ [cFld]).length = lp.length + 1 from by simp] at HV6
          have q6 := (blk_cell (blk_below P7.out HB4.out) 6).trans rfl
          have f6 := blk_frozen (blk_below P7.out HB4.out) 6
          go_simp
          clear q6 f6
          refine hK.out _ _ ?_ (fun hHeld2 => ?_)
          · exact ⟨(blk_cell (blk_far (blk_below C7.out HB4.out) (by dsimp only; have := HBC.out; omega) _) 0).trans rfl, (blk_cell (blk_far (blk_below C7.out HB4.out) (by dsimp only; have := HBC.out; omega) _) 1).trans rfl⟩
          clear hK zK hHeld
          have hHeld := hHeld2
          clear hHeld2
          try simp only [Act.put, List.setIfInBounds_toArray, List.set_cons_zero, List.set_cons_succ]
          refine wpAnyH_done (by kernel_rfl) ?_ _
          go_wp2
          go_meet
          case rel =>
            refine ⟨.slice A6 (lp.length + 1) c6, rfl, ⟨?_⟩, ⟨?_⟩, ⟨?_⟩, ⟨?_⟩⟩
            · exact blk_put (blk_below P7.out HB4.out) 6 _ rfl
            · exact blk_far (blk_below Q7.out HB4.out) (by dsimp only; omega) _
            · exact HV6.out.far (by dsimp only; have := blk_lt P7.out; omega) _
            · exact Below.setCell (below_step B7.out HB4.out) (by dsimp only; omega) _
        refine AllReadyH.cons (take_d rfl) (fun zK hK => ?_) AllReadyH.nil
        go_simp
        refine hK.out _ _ ?_ (fun hHeld2 => ?_)
        · exact ⟨(blk_cell (blk_below C7.out (below_alloc HB1.out _)) 0).trans rfl, (blk_cell (blk_below C7.out (below_alloc HB1.out _)) 1).trans rfl⟩
        clear hK zK hHeld
        have hHeld := hHeld2
        clear hHeld2
        try simp only [Act.put, List.setIfInBounds_toArray, List.set_cons_zero, List.set_cons_succ]
        refine anyH_at (fun W' => W'.heap[W1.heap.size]? = some (.cells #[.string ⟨#[67, 111, 110, 110, 101, 99, 116, 105, 111, 110]⟩, .string ⟨#[120, 44, 32, 99, 108, 111, 115, 101]⟩] 37 (0, 0)) ∧ Below wa.heap.size wa W' ∧ W'.heap[W0.heap.size]? = some (.cells #[] 37 (0, 0))) ⟨new_at _ rfl, HB1.out.alloc HB1.out.size _, blk_alloc HE.out _⟩ ?_ hHeld
        clear hHeld
        rintro W2 ⟨z0, z1, z2⟩ hHeld
        have HNE := Aside0.mk (show W1.heap.size ≠ W0.heap.size by have := blk_lt HE.out; omega)
        have H5 := Aside0.mk z0
        clear z0
        have HB2 := Aside0.mk z1
        clear z1
        have HE := Aside0.mk z2
        clear z2
        refine wpAnyH_ready (rs := [3]) (by kernel_rfl) (by simp) ?_
        refine AllReadyH.cons (take_d rfl) (fun zK hK => ?_) AllReadyH.nil
        rw [if_pos (by rfl)]
        refine wp_plus (W0 := wa) wa.heap.size _ _ 25 (.agg #[.string ⟨#[]⟩, .string ⟨#[]⟩]) rfl Tryd.underlying25 (by kernel_rfl) (by rfl) _ [] lp A1 c1 rfl rfl (row_empty HE.out HBE.out) (Kd.C_below CP7.out HB2.out) HB2.out HB2.out.size (by have := HSF'.out; have := sumF_length lp; rw [List.length_nil]; omega) ?_
        intro v1 W3 hv hb hz hk
        refine hK.out _ _ ?_ (fun hHeld2 => ?_)
        · exact ⟨(blk_cell (blk_below C7.out hb) 0).trans rfl, (blk_cell (blk_below C7.out hb) 1).trans rfl⟩
        clear hK zK hHeld
        have hHeld := hHeld2
        clear hHeld2
        try simp only [Act.put, List.setIfInBounds_toArray, List.set_cons_zero, List.set_cons_succ]
        have HV := Aside0.mk (show RowF W3 wa.heap.size v1 lp from hv)
        have HB3 := Aside0.mk hb
        have H5 := Aside0.mk (hk _ _ H5.out (fun e => HNE.out (Option.some.inj e)))
        clear hv hb hz hk
        refine wpAnyH_ready (rs := [6]) (by kernel_rfl) (by simp) ?_
        refine AllReadyH.cons (take_d rfl) (fun zK hK => ?_) AllReadyH.nil
        rw [if_pos (by rfl)]
        refine wp_plus (W0 := wa) wa.heap.size _ _ 25 (.agg #[.string ⟨#[]⟩, .string ⟨#[]⟩]) rfl Tryd.underlying25 (by kernel_rfl) (by rfl) v1 lp [cFld] (some ⟨W1.heap.size, 0, none⟩) 1 rfl rfl HV.out (C_one cFld H5.out) HB3.out HB3.out.size (by have := HSF'.out; have := sumF_length lp; rw [List.length_singleton]; omega) ?_
        intro v6 W4 hv hb hz hk
        refine hK.out _ _ ?_ (fun hHeld2 => ?_)
        · exact ⟨(blk_cell (blk_below C7.out hb) 0).trans rfl, (blk_cell (blk_below C7.out hb) 1).trans rfl⟩
        clear hK zK hHeld
        have hHeld := hHeld2
        clear hHeld2
        try simp only [Act.put, List.setIfInBounds_toArray, List.set_cons_zero, List.set_cons_succ]
        have HV6 := Aside0.mk hv
        have HB4 := Aside0.mk hb
        clear hv hb hz hk
        refine take_at (i := 7) (take_d rfl) ?_
        intro h_i
        refine wpAnyH_take (v := ?_) h_i (by kernel_rfl) (by kernel_rfl) (by kernel_rfl) (fun _ _ _ h => h) (Or.inl ⟨by rfl, ?_⟩) (by assumption) ?_
        case refine_2 => (intro w hSw; (try dsimp only at hSw); go_simp; (try with_reducible rfl))
        clear h_i
        try simp only [Act.put, List.setIfInBounds_toArray, List.set_cons_zero, List.set_cons_succ]
        refine wpAnyH_ready (rs := [8]) (by kernel_rfl) (by simp) ?_
        refine AllReadyH.cons (take_d rfl) (fun zK hK => ?_) AllReadyH.nil
        obtain ⟨A6, c6, e6, hc6, hC6⟩ := HV6.out.reads
        subst e6
        clear hc6 hC6
        rw [show (lp ++ [cFld]).length = lp.length + 1 from by simp] at HV6
        have q6 := (blk_cell (blk_below P7.out HB4.out) 6).trans rfl
        have f6 := blk_frozen (blk_below P7.out HB4.out) 6
        go_simp
        clear q6 f6
        refine hK.out _ _ ?_ (fun hHeld2 => ?_)
        · exact ⟨(blk_cell (blk_far (blk_below C7.out HB4.out) (by dsimp only; have := HBC.out; omega) _) 0).trans rfl, (blk_cell (blk_far (blk_below C7.out HB4.out) (by dsimp only; have := HBC.out; omega) _) 1).trans rfl⟩
        clear hK zK hHeld
        have hHeld := hHeld2
        clear hHeld2
        try simp only [Act.put, List.setIfInBounds_toArray, List.set_cons_zero, List.set_cons_succ]
        refine wpAnyH_done (by kernel_rfl) ?_ _
        go_wp2
        go_meet
        case rel =>
          refine ⟨.slice A6 (lp.length + 1) c6, rfl, ⟨?_⟩, ⟨?_⟩, ⟨?_⟩, ⟨?_⟩⟩
          · exact blk_put (blk_below P7.out HB4.out) 6 _ rfl
          · exact blk_far (blk_below Q7.out HB4.out) (by dsimp only; omega) _
          · exact HV6.out.far (by dsimp only; have := blk_lt P7.out; omega) _
          · exact Below.setCell (below_step B7.out HB4.out) (by dsimp only; omega) _
      refine AllReadyH.cons (take_d rfl) (fun zK hK => ?_) AllReadyH.nil
      go_simp
      refine hK.out _ _ ?_ (fun hHeld2 => ?_)
      · exact ⟨(blk_cell (blk_below C7.out (below_alloc HB1.out _)) 0).trans rfl, (blk_cell (blk_below C7.out (below_alloc HB1.out _)) 1).trans rfl⟩
      clear hK zK hHeld
      have hHeld := hHeld2
      clear hHeld2
      try simp only [Act.put, List.setIfInBounds_toArray, List.set_cons_zero, List.set_cons_succ]
      refine anyH_at (fun W' => W'.heap[W1.heap.size]? = some (.cells #[.string ⟨#[67, 111, 110, 110, 101, 99, 116, 105, 111, 110]⟩, .string ⟨#[120, 44, 32, 99, 108, 111, 115, 101]⟩] 37 (0, 0)) ∧ Below wa.heap.size wa W' ∧ W'.heap[W0.heap.size]? = some (.cells #[] 37 (0, 0))) ⟨new_at _ rfl, HB1.out.alloc HB1.out.size _, blk_alloc HE.out _⟩ ?_ hHeld
      clear hHeld
      rintro W2 ⟨z0, z1, z2⟩ hHeld
      have HNE := Aside0.mk (show W1.heap.size ≠ W0.heap.size by have := blk_lt HE.out; omega)
      have H5 := Aside0.mk z0
      clear z0
      have HB2 := Aside0.mk z1
      clear z1
      have HE := Aside0.mk z2
      clear z2
      refine wpAnyH_ready (rs := [2]) (by kernel_rfl) (by simp) ?_
      refine AllReadyH.cons (take_d rfl) (fun zK hK => ?_) AllReadyH.nil
      have q6 := (blk_cell (blk_below P7.out HB2.out) 6).trans rfl
      go_simp
      clear q6
      refine hK.out _ _ ?_ (fun hHeld2 => ?_)
      · exact hHeld
      clear hK zK hHeld
      have hHeld := hHeld2
      clear hHeld2
      try simp only [Act.put, List.setIfInBounds_toArray, List.set_cons_zero, List.set_cons_succ]
      refine wpAnyH_ready (rs := [3]) (by kernel_rfl) (by simp) ?_
      refine AllReadyH.cons (take_d rfl) (fun zK hK => ?_) AllReadyH.nil
      rw [if_pos (by rfl)]
      refine wp_plus (W0 := wa) wa.heap.size _ _ 25 (.agg #[.string ⟨#[]⟩, .string ⟨#[]⟩]) rfl Tryd.underlying25 (by kernel_rfl) (by rfl) _ [] lp A1 c1 rfl rfl (row_empty HE.out HBE.out) (Kd.C_below CP7.out HB2.out) HB2.out HB2.out.size (by have := HSF'.out; have := sumF_length lp; rw [List.length_nil]; omega) ?_
      intro v1 W3 hv hb hz hk
      refine hK.out _ _ ?_ (fun hHeld2 => ?_)
      · exact ⟨(blk_cell (blk_below C7.out hb) 0).trans rfl, (blk_cell (blk_below C7.out hb) 1).trans rfl⟩
      clear hK zK hHeld
      have hHeld := hHeld2
      clear hHeld2
      try simp only [Act.put, List.setIfInBounds_toArray, List.set_cons_zero, List.set_cons_succ]
      have HV := Aside0.mk (show RowF W3 wa.heap.size v1 lp from hv)
      have HB3 := Aside0.mk hb
      have H5 := Aside0.mk (hk _ _ H5.out (fun e => HNE.out (Option.some.inj e)))
      clear hv hb hz hk
      refine wpAnyH_ready (rs := [6]) (by kernel_rfl) (by simp) ?_
      refine AllReadyH.cons (take_d rfl) (fun zK hK => ?_) AllReadyH.nil
      rw [if_pos (by rfl)]
      refine wp_plus (W0 := wa) wa.heap.size _ _ 25 (.agg #[.string ⟨#[]⟩, .string ⟨#[]⟩]) rfl Tryd.underlying25 (by kernel_rfl) (by rfl) v1 lp [cFld] (some ⟨W1.heap.size, 0, none⟩) 1 rfl rfl HV.out (C_one cFld H5.out) HB3.out HB3.out.size (by have := HSF'.out; have := sumF_length lp; rw [List.length_singleton]; omega) ?_
      intro v6 W4 hv hb hz hk
      refine hK.out _ _ ?_ (fun hHeld2 => ?_)
      · exact ⟨(blk_cell (blk_below C7.out hb) 0).trans rfl, (blk_cell (blk_below C7.out hb) 1).trans rfl⟩
      clear hK zK hHeld
      have hHeld := hHeld2
      clear hHeld2
      try simp only [Act.put, List.setIfInBounds_toArray, List.set_cons_zero, List.set_cons_succ]
      have HV6 := Aside0.mk hv
      have HB4 := Aside0.mk hb
      clear hv hb hz hk
      refine take_at (i := 7) (take_d rfl) ?_
      intro h_i
      refine wpAnyH_take (v := ?_) h_i (by kernel_rfl) (by kernel_rfl) (by kernel_rfl) (fun _ _ _ h => h) (Or.inl ⟨by rfl, ?_⟩) (by assumption) ?_
      case refine_2 => (intro w hSw; (try dsimp only at hSw); go_simp; (try with_reducible rfl))
      clear h_i
      try simp only [Act.put, List.setIfInBounds_toArray, List.set_cons_zero, List.set_cons_succ]
      refine wpAnyH_ready (rs := [8]) (by kernel_rfl) (by simp) ?_
      refine AllReadyH.cons (take_d rfl) (fun zK hK => ?_) AllReadyH.nil
      obtain ⟨A6, c6, e6, hc6, hC6⟩ := HV6.out.reads
      subst e6
      clear hc6 hC6
      rw [show (lp ++ [cFld]).length = lp.length + 1 from by simp] at HV6
      have q6 := (blk_cell (blk_below P7.out HB4.out) 6).trans rfl
      have f6 := blk_frozen (blk_below P7.out HB4.out) 6
      go_simp
      clear q6 f6
      refine hK.out _ _ ?_ (fun hHeld2 => ?_)
      · exact ⟨(blk_cell (blk_far (blk_below C7.out HB4.out) (by dsimp only; have := HBC.out; omega) _) 0).trans rfl, (blk_cell (blk_far (blk_below C7.out HB4.out) (by dsimp only; have := HBC.out; omega) _) 1).trans rfl⟩
      clear hK zK hHeld
      have hHeld := hHeld2
      clear hHeld2
      try simp only [Act.put, List.setIfInBounds_toArray, List.set_cons_zero, List.set_cons_succ]
      refine wpAnyH_done (by kernel_rfl) ?_ _
      go_wp2
      go_meet
      case rel =>
        refine ⟨.slice A6 (lp.length + 1) c6, rfl, ⟨?_⟩, ⟨?_⟩, ⟨?_⟩, ⟨?_⟩⟩
        · exact blk_put (blk_below P7.out HB4.out) 6 _ rfl
        · exact blk_far (blk_below Q7.out HB4.out) (by dsimp only; omega) _
        · exact HV6.out.far (by dsimp only; have := blk_lt P7.out; omega) _
        · exact Below.setCell (below_step B7.out HB4.out) (by dsimp only; omega) _
    refine AllReadyH.cons (take_d rfl) (fun zK hK => ?_) ?_
    · have q6 := (blk_cell (blk_below P7.out HB0.out) 6).trans rfl
      go_simp
      clear q6
      refine hK.out _ _ ?_ (fun hHeld2 => ?_)
      · exact hHeld
      clear hK zK hHeld
      have hHeld := hHeld2
      clear hHeld2
      try simp only [Act.put, List.setIfInBounds_toArray, List.set_cons_zero, List.set_cons_succ]
      refine wpAnyH_ready (rs := [0, 5]) (by kernel_rfl) (by simp) ?_
      refine AllReadyH.cons (take_d rfl) (fun zK hK => ?_) ?_
      · go_simp
        refine hK.out _ _ ?_ (fun hHeld2 => ?_)
        · exact ⟨(blk_cell (blk_below C7.out (below_alloc HB0.out _)) 0).trans rfl, (blk_cell (blk_below C7.out (below_alloc HB0.out _)) 1).trans rfl⟩
        clear hK zK hHeld
        have hHeld := hHeld2
        clear hHeld2
        try simp only [Act.put, List.setIfInBounds_toArray, List.set_cons_zero, List.set_cons_succ]
        refine anyH_at (fun W' => W'.heap[W0.heap.size]? = some (.cells #[] 37 (0, 0)) ∧ Below wa.heap.size wa W') ⟨new_at _ rfl, HB0.out.alloc HB0.out.size _⟩ ?_ hHeld
        clear hHeld
        rintro W1 ⟨z0, z1⟩ hHeld
        have HBE := Aside0.mk (show wa.heap.size ≤ W0.heap.size from HB0.out.size)
        have HE := Aside0.mk z0
        clear z0
        have HB1 := Aside0.mk z1
        clear z1
        refine wpAnyH_ready (rs := [3, 5]) (by kernel_rfl) (by simp) ?_
        refine AllReadyH.cons (take_d rfl) (fun zK hK => ?_) ?_
        · rw [if_pos (by rfl)]
          refine wp_plus (W0 := wa) wa.heap.size _ _ 25 (.agg #[.string ⟨#[]⟩, .string ⟨#[]⟩]) rfl Tryd.underlying25 (by kernel_rfl) (by rfl) _ [] lp A1 c1 rfl rfl (row_empty HE.out HBE.out) (Kd.C_below CP7.out HB1.out) HB1.out HB1.out.size (by have := HSF'.out; have := sumF_length lp; rw [List.length_nil]; omega) ?_
          intro v1 W2 hv hb hz hk
          refine hK.out _ _ ?_ (fun hHeld2 => ?_)
          · exact ⟨(blk_cell (blk_below C7.out hb) 0).trans rfl, (blk_cell (blk_below C7.out hb) 1).trans rfl⟩
          clear hK zK hHeld
          have hHeld := hHeld2
          clear hHeld2
          try simp only [Act.put, List.setIfInBounds_toArray, List.set_cons_zero, List.set_cons_succ]
          have HV := Aside0.mk (show RowF W2 wa.heap.size v1 lp from hv)
          have HB2 := Aside0.mk hb
          clear hv hb hz hk
          refine wpAnyH_ready (rs := [5]) (by kernel_rfl) (by simp) ?_
          refine AllReadyH.cons (take_d rfl) (fun zK hK => ?_) AllReadyH.nil
          go_simp
          refine hK.out _ _ ?_ (fun hHeld2 => ?_)
          · exact ⟨(blk_cell (blk_below C7.out (below_alloc HB2.out _)) 0).trans rfl, (blk_cell (blk_below C7.out (below_alloc HB2.out _)) 1).trans rfl⟩
          clear hK zK hHeld
          have hHeld := hHeld2
          clear hHeld2
          try simp only [Act.put, List.setIfInBounds_toArray, List.set_cons_zero, List.set_cons_succ]
          refine anyH_at (fun W' => W'.heap[W2.heap.size]? = some (.cells #[.string ⟨#[67, 111, 110, 110, 101, 99, 116, 105, 111, 110]⟩, .string ⟨#[120, 44, 32, 99, 108, 111, 115, 101]⟩] 37 (0, 0)) ∧ Below wa.heap.size wa W' ∧ RowF W' wa.heap.size v1 lp) ⟨new_at _ rfl, HB2.out.alloc HB2.out.size _, HV.out.alloc _⟩ ?_ hHeld
          clear hHeld
          rintro W3 ⟨z0, z1, z2⟩ hHeld
          have H5 := Aside0.mk z0
          clear z0
          have HB3 := Aside0.mk z1
          clear z1
          have HV := Aside0.mk z2
          clear z2
          refine wpAnyH_ready (rs := [6]) (by kernel_rfl) (by simp) ?_
          refine AllReadyH.cons (take_d rfl) (fun zK hK => ?_) AllReadyH.nil
          rw [if_pos (by rfl)]
          refine wp_plus (W0 := wa) wa.heap.size _ _ 25 (.agg #[.string ⟨#[]⟩, .string ⟨#[]⟩]) rfl Tryd.underlying25 (by kernel_rfl) (by rfl) v1 lp [cFld] (some ⟨W2.heap.size, 0, none⟩) 1 rfl rfl HV.out (C_one cFld H5.out) HB3.out HB3.out.size (by have := HSF'.out; have := sumF_length lp; rw [List.length_singleton]; omega) ?_
          intro v6 W4 hv hb hz hk
          refine hK.out _ _ ?_ (fun hHeld2 => ?_)
          · exact ⟨(blk_cell (blk_below C7.out hb) 0).trans rfl, (blk_cell (blk_below C7.out hb) 1).trans rfl⟩
          clear hK zK hHeld
          have hHeld := hHeld2
          clear hHeld2
          try simp only [Act.put, List.setIfInBounds_toArray, List.set_cons_zero, List.set_cons_succ]
          have HV6 := Aside0.mk hv
          have HB4 := Aside0.mk hb
          clear hv hb hz hk
          refine take_at (i := 7) (take_d rfl) ?_
          intro h_i
          refine wpAnyH_take (v := ?_) h_i (by kernel_rfl) (by kernel_rfl) (by kernel_rfl) (fun _ _ _ h => h) (Or.inl ⟨by rfl, ?_⟩) (by assumption) ?_
          case refine_2 => (intro w hSw; (try dsimp only at hSw); go_simp; (try with_reducible rfl))
          clear h_i
          try simp only [Act.put, List.setIfInBounds_toArray, List.set_cons_zero, List.set_cons_succ]
          refine wpAnyH_ready (rs := [8]) (by kernel_rfl) (by simp) ?_
          refine AllReadyH.cons (take_d rfl) (fun zK hK => ?_) AllReadyH.nil
          obtain ⟨A6, c6, e6, hc6, hC6⟩ := HV6.out.reads
          subst e6
          clear hc6 hC6
          rw [show (lp ++ [cFld]).length = lp.length + 1 from by simp] at HV6
          have q6 := (blk_cell (blk_below P7.out HB4.out) 6).trans rfl
          have f6 := blk_frozen (blk_below P7.out HB4.out) 6
          go_simp
          clear q6 f6
          refine hK.out _ _ ?_ (fun hHeld2 => ?_)
          · exact ⟨(blk_cell (blk_far (blk_below C7.out HB4.out) (by dsimp only; have := HBC.out; omega) _) 0).trans rfl, (blk_cell (blk_far (blk_below C7.out HB4.out) (by dsimp only; have := HBC.out; omega) _) 1).trans rfl⟩
          clear hK zK hHeld
          have hHeld := hHeld2
          clear hHeld2
          try simp only [Act.put, List.setIfInBounds_toArray, List.set_cons_zero, List.set_cons_succ]
          refine wpAnyH_done (by kernel_rfl) ?_ _
          go_wp2
          go_meet
          case rel =>
            refine ⟨.slice A6 (lp.length + 1) c6, rfl, ⟨?_⟩, ⟨?_⟩, ⟨?_⟩, ⟨?_⟩⟩
            · exact blk_put (blk_below P7.out HB4.out) 6 _ rfl
            · exact blk_far (blk_below Q7.out HB4.out) (by dsimp only; omega) _
            · exact HV6.out.far (by dsimp only; have := blk_lt P7.out; omega) _
            · exact Below.setCell (below_step B7.out HB4.out) (by dsimp only; omega) _
        refine AllReadyH.cons (take_d rfl) (fun zK hK => ?_) AllReadyH.nil
        go_simp
        refine hK.out _ _ ?_ (fun hHeld2 => ?_)
        · exact ⟨(blk_cell (blk_below C7.out (below_alloc HB1.out _)) 0).trans rfl, (blk_cell (blk_below C7.out (below_alloc HB1.out _)) 1).trans rfl⟩
        clear hK zK hHeld
        have hHeld := hHeld2
        clear hHeld2
        try simp only [Act.put, List.setIfInBounds_toArray, List.set_cons_zero, List.set_cons_succ]
        refine anyH_at (fun W' => W'.heap[W1.heap.size]? = some (.cells #[.string ⟨#[67, 111, 110, 110, 101, 99, 116, 105, 111, 110]⟩, .string ⟨#[120, 44, 32, 99, 108, 111, 115, 101]⟩] 37 (0, 0)) ∧ Below wa.heap.size wa W' ∧ W'.heap[W0.heap.size]? = some (.cells #[] 37 (0, 0))) ⟨new_at _ rfl, HB1.out.alloc HB1.out.size _, blk_alloc HE.out _⟩ ?_ hHeld
        clear hHeld
        rintro W2 ⟨z0, z1, z2⟩ hHeld
        have HNE := Aside0.mk (show W1.heap.size ≠ W0.heap.size by have := blk_lt HE.out; omega)
        have H5 := Aside0.mk z0
        clear z0
        have HB2 := Aside0.mk z1
        clear z1
        have HE := Aside0.mk z2
        clear z2
        refine wpAnyH_ready (rs := [3]) (by kernel_rfl) (by simp) ?_
        refine AllReadyH.cons (take_d rfl) (fun zK hK => ?_) AllReadyH.nil
        rw [if_pos (by rfl)]
        refine wp_plus (W0 := wa) wa.heap.size _ _ 25 (.agg #[.string ⟨#[]⟩, .string ⟨#[]⟩]) rfl Tryd.underlying25 (by kernel_rfl) (by rfl) _ [] lp A1 c1 rfl rfl (row_empty HE.out HBE.out) (Kd.C_below CP7.out HB2.out) HB2.out HB2.out.size (by have := HSF'.out; have := sumF_length lp; rw [List.length_nil]; omega) ?_
        intro v1 W3 hv hb hz hk
        refine hK.out _ _ ?_ (fun hHeld2 => ?_)
        · exact ⟨(blk_cell (blk_below C7.out hb) 0).trans rfl, (blk_cell (blk_below C7.out hb) 1).trans rfl⟩
        clear hK zK hHeld
        have hHeld := hHeld2
        clear hHeld2
        try simp only [Act.put, List.setIfInBounds_toArray, List.set_cons_zero, List.set_cons_succ]
        have HV := Aside0.mk (show RowF W3 wa.heap.size v1 lp from hv)
        have HB3 := Aside0.mk hb
        have H5 := Aside0.mk (hk _ _ H5.out (fun e => HNE.out (Option.some.inj e)))
        clear hv hb hz hk
        refine wpAnyH_ready (rs := [6]) (by kernel_rfl) (by simp) ?_
        refine AllReadyH.cons (take_d rfl) (fun zK hK => ?_) AllReadyH.nil
        rw [if_pos (by rfl)]
        refine wp_plus (W0 := wa) wa.heap.size _ _ 25 (.agg #[.string ⟨#[]⟩, .string ⟨#[]⟩]) rfl Tryd.underlying25 (by kernel_rfl) (by rfl) v1 lp [cFld] (some ⟨W1.heap.size, 0, none⟩) 1 rfl rfl HV.out (C_one cFld H5.out) HB3.out HB3.out.size (by have := HSF'.out; have := sumF_length lp; rw [List.length_singleton]; omega) ?_
        intro v6 W4 hv hb hz hk
        refine hK.out _ _ ?_ (fun hHeld2 => ?_)
        · exact ⟨(blk_cell (blk_below C7.out hb) 0).trans rfl, (blk_cell (blk_below C7.out hb) 1).trans rfl⟩
        clear hK zK hHeld
        have hHeld := hHeld2
        clear hHeld2
        try simp only [Act.put, List.setIfInBounds_toArray, List.set_cons_zero, List.set_cons_succ]
        have HV6 := Aside0.mk hv
        have HB4 := Aside0.mk hb
        clear hv hb hz hk
        refine take_at (i := 7) (take_d rfl) ?_
        intro h_i
        refine wpAnyH_take (v := ?_) h_i (by kernel_rfl) (by kernel_rfl) (by kernel_rfl) (fun _ _ _ h => h) (Or.inl ⟨by rfl, ?_⟩) (by assumption) ?_
        case refine_2 => (intro w hSw; (try dsimp only at hSw); go_simp; (try with_reducible rfl))
        clear h_i
        try simp only [Act.put, List.setIfInBounds_toArray, List.set_cons_zero, List.set_cons_succ]
        refine wpAnyH_ready (rs := [8]) (by kernel_rfl) (by simp) ?_
        refine AllReadyH.cons (take_d rfl) (fun zK hK => ?_) AllReadyH.nil
        obtain ⟨A6, c6, e6, hc6, hC6⟩ := HV6.out.reads
        subst e6
        clear hc6 hC6
        rw [show (lp ++ [cFld]).length = lp.length + 1 from by simp] at HV6
        have q6 := (blk_cell (blk_below P7.out HB4.out) 6).trans rfl
        have f6 := blk_frozen (blk_below P7.out HB4.out) 6
        go_simp
        clear q6 f6
        refine hK.out _ _ ?_ (fun hHeld2 => ?_)
        · exact ⟨(blk_cell (blk_far (blk_below C7.out HB4.out) (by dsimp only; have := HBC.out; omega) _) 0).trans rfl, (blk_cell (blk_far (blk_below C7.out HB4.out) (by dsimp only; have := HBC.out; omega) _) 1).trans rfl⟩
        clear hK zK hHeld
        have hHeld := hHeld2
        clear hHeld2
        try simp only [Act.put, List.setIfInBounds_toArray, List.set_cons_zero, List.set_cons_succ]
        refine wpAnyH_done (by kernel_rfl) ?_ _
        go_wp2
        go_meet
        case rel =>
          refine ⟨.slice A6 (lp.length + 1) c6, rfl, ⟨?_⟩, ⟨?_⟩, ⟨?_⟩, ⟨?_⟩⟩
          · exact blk_put (blk_below P7.out HB4.out) 6 _ rfl
          · exact blk_far (blk_below Q7.out HB4.out) (by dsimp only; omega) _
          · exact HV6.out.far (by dsimp only; have := blk_lt P7.out; omega) _
          · exact Below.setCell (below_step B7.out HB4.out) (by dsimp only; omega) _
      refine AllReadyH.cons (take_d rfl) (fun zK hK => ?_) AllReadyH.nil
      go_simp
      refine hK.out _ _ ?_ (fun hHeld2 => ?_)
      · exact ⟨(blk_cell (blk_below C7.out (below_alloc HB0.out _)) 0).trans rfl, (blk_cell (blk_below C7.out (below_alloc HB0.out _)) 1).trans rfl⟩
      clear hK zK hHeld
      have hHeld := hHeld2
      clear hHeld2
      try simp only [Act.put, List.setIfInBounds_toArray, List.set_cons_zero, List.set_cons_succ]
      refine anyH_at (fun W' => W'.heap[W0.heap.size]? = some (.cells #[.string ⟨#[67, 111, 110, 110, 101, 99, 116, 105, 111, 110]⟩, .string ⟨#[120, 44, 32, 99, 108, 111, 115, 101]⟩] 37 (0, 0)) ∧ Below wa.heap.size wa W') ⟨new_at _ rfl, HB0.out.alloc HB0.out.size _⟩ ?_ hHeld
      clear hHeld
      rintro W1 ⟨z0, z1⟩ hHeld
      have H5 := Aside0.mk z0
      clear z0
      have HB1 := Aside0.mk z1
      clear z1
      refine wpAnyH_ready (rs := [0]) (by kernel_rfl) (by simp) ?_
      refine AllReadyH.cons (take_d rfl) (fun zK hK => ?_) AllReadyH.nil
      go_simp
      refine hK.out _ _ ?_ (fun hHeld2 => ?_)
      · exact ⟨(blk_cell (blk_below C7.out (below_alloc HB1.out _)) 0).trans rfl, (blk_cell (blk_below C7.out (below_alloc HB1.out _)) 1).trans rfl⟩
      clear hK zK hHeld
      have hHeld := hHeld2
      clear hHeld2
      try simp only [Act.put, List.setIfInBounds_toArray, List.set_cons_zero, List.set_cons_succ]
      refine anyH_at (fun W' => W'.heap[W1.heap.size]? = some (.cells #[] 37 (0, 0)) ∧ Below wa.heap.size wa W' ∧ W'.heap[W0.heap.size]? = some (.cells #[.string ⟨#[67, 111, 110, 110, 101, 99, 116, 105, 111, 110]⟩, .string ⟨#[120, 44, 32, 99, 108, 111, 115, 101]⟩] 37 (0, 0))) ⟨new_at _ rfl, HB1.out.alloc HB1.out.size _, blk_alloc H5.out _⟩ ?_ hHeld
      clear hHeld
      rintro W2 ⟨z0, z1, z2⟩ hHeld
      have HNE := Aside0.mk (show W0.heap.size ≠ W1.heap.size by have := blk_lt H5.out; omega)
      have HBE := Aside0.mk (show wa.heap.size ≤ W1.heap.size from HB1.out.size)
      have HE := Aside0.mk z0
      clear z0
      have HB2 := Aside0.mk z1
      clear z1
      have H5 := Aside0.mk z2
      clear z2
      refine wpAnyH_ready (rs := [3]) (by kernel_rfl) (by simp) ?_
      refine AllReadyH.cons (take_d rfl) (fun zK hK => ?_) AllReadyH.nil
      rw [if_pos (by rfl)]
      refine wp_plus (W0 := wa) wa.heap.size _ _ 25 (.agg #[.string ⟨#[]⟩, .string ⟨#[]⟩]) rfl Tryd.underlying25 (by kernel_rfl) (by rfl) _ [] lp A1 c1 rfl rfl (row_empty HE.out HBE.out) (Kd.C_below CP7.out HB2.out) HB2.out HB2.out.size (by have := HSF'.out; have := sumF_length lp; rw [List.length_nil]; omega) ?_
      intro v1 W3 hv hb hz hk
      refine hK.out _ _ ?_ (fun hHeld2 => ?_)
      · exact ⟨(blk_cell (blk_below C7.out hb) 0).trans rfl, (blk_cell (blk_below C7.out hb) 1).trans rfl⟩
      clear hK zK hHeld
      have hHeld := hHeld2
      clear hHeld2
      try simp only [Act.put, List.setIfInBounds_toArray, List.set_cons_zero, List.set_cons_succ]
      have HV := Aside0.mk (show RowF W3 wa.heap.size v1 lp from hv)
      have HB3 := Aside0.mk hb
      have H5 := Aside0.mk (hk _ _ H5.out (fun e => HNE.out (Option.some.inj e)))
      clear hv hb hz hk
      refine wpAnyH_ready (rs := [6]) (by kernel_rfl) (by simp) ?_
      refine AllReadyH.cons (take_d rfl) (fun zK hK => ?_) AllReadyH.nil
      rw [if_pos (by rfl)]
      refine wp_plus (W0 := wa) wa.heap.size _ _ 25 (.agg #[.string ⟨#[]⟩, .string ⟨#[]⟩]) rfl Tryd.underlying25 (by kernel_rfl) (by rfl) v1 lp [cFld] (some ⟨W0.heap.size, 0, none⟩) 1 rfl rfl HV.out (C_one cFld H5.out) HB3.out HB3.out.size (by have := HSF'.out; have := sumF_length lp; rw [List.length_singleton]; omega) ?_
      intro v6 W4 hv hb hz hk
      refine hK.out _ _ ?_ (fun hHeld2 => ?_)
      · exact ⟨(blk_cell (blk_below C7.out hb) 0).trans rfl, (blk_cell (blk_below C7.out hb) 1).trans rfl⟩
      clear hK zK hHeld
      have hHeld := hHeld2
      clear hHeld2
      try simp only [Act.put, List.setIfInBounds_toArray, List.set_cons_zero, List.set_cons_succ]
      have HV6 := Aside0.mk hv
      have HB4 := Aside0.mk hb
      clear hv hb hz hk
      refine take_at (i := 7) (take_d rfl) ?_
      intro h_i
      refine wpAnyH_take (v := ?_) h_i (by kernel_rfl) (by kernel_rfl) (by kernel_rfl) (fun _ _ _ h => h) (Or.inl ⟨by rfl, ?_⟩) (by assumption) ?_
      case refine_2 => (intro w hSw; (try dsimp only at hSw); go_simp; (try with_reducible rfl))
      clear h_i
      try simp only [Act.put, List.setIfInBounds_toArray, List.set_cons_zero, List.set_cons_succ]
      refine wpAnyH_ready (rs := [8]) (by kernel_rfl) (by simp) ?_
      refine AllReadyH.cons (take_d rfl) (fun zK hK => ?_) AllReadyH.nil
      obtain ⟨A6, c6, e6, hc6, hC6⟩ := HV6.out.reads
      subst e6
      clear hc6 hC6
      rw [show (lp ++ [cFld]).length = lp.length + 1 from by simp] at HV6
      have q6 := (blk_cell (blk_below P7.out HB4.out) 6).trans rfl
      have f6 := blk_frozen (blk_below P7.out HB4.out) 6
      go_simp
      clear q6 f6
      refine hK.out _ _ ?_ (fun hHeld2 => ?_)
      · exact ⟨(blk_cell (blk_far (blk_below C7.out HB4.out) (by dsimp only; have := HBC.out; omega) _) 0).trans rfl, (blk_cell (blk_far (blk_below C7.out HB4.out) (by dsimp only; have := HBC.out; omega) _) 1).trans rfl⟩
      clear hK zK hHeld
      have hHeld := hHeld2
      clear hHeld2
      try simp only [Act.put, List.setIfInBounds_toArray, List.set_cons_zero, List.set_cons_succ]
      refine wpAnyH_done (by kernel_rfl) ?_ _
      go_wp2
      go_meet
      case rel =>
        refine ⟨.slice A6 (lp.length + 1) c6, rfl, ⟨?_⟩, ⟨?_⟩, ⟨?_⟩, ⟨?_⟩⟩
        · exact blk_put (blk_below P7.out HB4.out) 6 _ rfl
        · exact blk_far (blk_below Q7.out HB4.out) (by dsimp only; omega) _
        · exact HV6.out.far (by dsimp only; have := blk_lt P7.out; omega) _
        · exact Below.setCell (below_step B7.out HB4.out) (by dsimp only; omega) _
    refine AllReadyH.cons (take_d rfl) (fun zK hK => ?_) AllReadyH.nil
    go_simp
    refine hK.out _ _ ?_ (fun hHeld2 => ?_)
    · exact ⟨(blk_cell (blk_below C7.out (below_alloc HB0.out _)) 0).trans rfl, (blk_cell (blk_below C7.out (below_alloc HB0.out _)) 1).trans rfl⟩
    clear hK zK hHeld
    have hHeld := hHeld2
    clear hHeld2
    try simp only [Act.put, List.setIfInBounds_toArray, List.set_cons_zero, List.set_cons_succ]
    refine anyH_at (fun W' => W'.heap[W0.heap.size]? = some (.cells #[.string ⟨#[67, 111, 110, 110, 101, 99, 116, 105, 111, 110]⟩, .string ⟨#[120, 44, 32, 99, 108, 111, 115, 101]⟩] 37 (0, 0)) ∧ Below wa.heap.size wa W') ⟨new_at _ rfl, HB0.out.alloc HB0.out.size _⟩ ?_ hHeld
    clear hHeld
    rintro W1 ⟨z0, z1⟩ hHeld
    have H5 := Aside0.mk z0
    clear z0
    have HB1 := Aside0.mk z1
    clear z1
    refine wpAnyH_ready (rs := [0, 2]) (by kernel_rfl) (by simp) ?_
    refine AllReadyH.cons (take_d rfl) (fun zK hK => ?_) ?_
    · go_simp
      refine hK.out _ _ ?_ (fun hHeld2 => ?_)
      · exact ⟨(blk_cell (blk_below C7.out (below_alloc HB1.out _)) 0).trans rfl, (blk_cell (blk_below C7.out (below_alloc HB1.out _)) 1).trans rfl⟩
      clear hK zK hHeld
      have hHeld := hHeld2
      clear hHeld2
      try simp only [Act.put, List.setIfInBounds_toArray, List.set_cons_zero, List.set_cons_succ]
      refine anyH_at (fun W' => W'.heap[W1.heap.size]? = some (.cells #[] 37 (0, 0)) ∧ Below wa.heap.size wa W' ∧ W'.heap[W0.heap.size]? = some (.cells #[.string ⟨#[67, 111, 110, 110, 101, 99, 116, 105, 111, 110]⟩, .string ⟨#[120, 44, 32, 99, 108, 111, 115, 101]⟩] 37 (0, 0))) ⟨new_at _ rfl, HB1.out.alloc HB1.out.size _, blk_alloc H5.out _⟩ ?_ hHeld
      clear hHeld
      rintro W2 ⟨z0, z1, z2⟩ hHeld
      have HNE := Aside0.mk (show W0.heap.size ≠ W1.heap.size by have := blk_lt H5.out; omega)
      have HBE := Aside0.mk (show wa.heap.size ≤ W1.heap.size from HB1.out.size)
      have HE := Aside0.mk z0
      clear z0
      have HB2 := Aside0.mk z1
      clear z1
      have H5 := Aside0.mk z2
      clear z2
      refine wpAnyH_ready (rs := [2]) (by kernel_rfl) (by simp) ?_
      refine AllReadyH.cons (take_d rfl) (fun zK hK => ?_) AllReadyH.nil
      have q6 := (blk_cell (blk_below P7.out HB2.out) 6).trans rfl
      go_simp
      clear q6
      refine hK.out _ _ ?_ (fun hHeld2 => ?_)
      · exact hHeld
      clear hK zK hHeld
      have hHeld := hHeld2
      clear hHeld2
      try simp only [Act.put, List.setIfInBounds_toArray, List.set_cons_zero, List.set_cons_succ]
      refine wpAnyH_ready (rs := [3]) (by kernel_rfl) (by simp) ?_
      refine AllReadyH.cons (take_d rfl) (fun zK hK => ?_) AllReadyH.nil
      rw [if_pos (by rfl)]
      refine wp_plus (W0 := wa) wa.heap.size _ _ 25 (.agg #[.string ⟨#[]⟩, .string ⟨#[]⟩]) rfl Tryd.underlying25 (by kernel_rfl) (by rfl) _ [] lp A1 c1 rfl rfl (row_empty HE.out HBE.out) (Kd.C_below CP7.out HB2.out) HB2.out HB2.out.size (by have := HSF'.out; have := sumF_length lp; rw [List.length_nil]; omega) ?_
      intro v1 W3 hv hb hz hk
      refine hK.out _ _ ?_ (fun hHeld2 => ?_)
      · exact ⟨(blk_cell (blk_below C7.out hb) 0).trans rfl, (blk_cell (blk_below C7.out hb) 1).trans rfl⟩
      clear hK zK hHeld
      have hHeld := hHeld2
      clear hHeld2
      try simp only [Act.put, List.setIfInBounds_toArray, List.set_cons_zero, List.set_cons_succ]
      have HV := Aside0.mk (show RowF W3 wa.heap.size v1 lp from hv)
      have HB3 := Aside0.mk hb
      have H5 := Aside0.mk (hk _ _ H5.out (fun e => HNE.out (Option.some.inj e)))
      clear hv hb hz hk
      refine wpAnyH_ready (rs := [6]) (by kernel_rfl) (by simp) ?_
      refine AllReadyH.cons (take_d rfl) (fun zK hK => ?_) AllReadyH.nil
      rw [if_pos (by rfl)]
      refine wp_plus (W0 := wa) wa.heap.size _ _ 25 (.agg #[.string ⟨#[]⟩, .string ⟨#[]⟩]) rfl Tryd.underlying25 (by kernel_rfl) (by rfl) v1 lp [cFld] (some ⟨W0.heap.size, 0, none⟩) 1 rfl rfl HV.out (C_one cFld H5.out) HB3.out HB3.out.size (by have := HSF'.out; have := sumF_length lp; rw [List.length_singleton]; omega) ?_
      intro v6 W4 hv hb hz hk
      refine hK.out _ _ ?_ (fun hHeld2 => ?_)
      · exact ⟨(blk_cell (blk_below C7.out hb) 0).trans rfl, (blk_cell (blk_below C7.out hb) 1).trans rfl⟩
      clear hK zK hHeld
      have hHeld := hHeld2
      clear hHeld2
      try simp only [Act.put, List.setIfInBounds_toArray, List.set_cons_zero, List.set_cons_succ]
      have HV6 := Aside0.mk hv
      have HB4 := Aside0.mk hb
      clear hv hb hz hk
      refine take_at (i := 7) (take_d rfl) ?_
      intro h_i
      refine wpAnyH_take (v := ?_) h_i (by kernel_rfl) (by kernel_rfl) (by kernel_rfl) (fun _ _ _ h => h) (Or.inl ⟨by rfl, ?_⟩) (by assumption) ?_
      case refine_2 => (intro w hSw; (try dsimp only at hSw); go_simp; (try with_reducible rfl))
      clear h_i
      try simp only [Act.put, List.setIfInBounds_toArray, List.set_cons_zero, List.set_cons_succ]
      refine wpAnyH_ready (rs := [8]) (by kernel_rfl) (by simp) ?_
      refine AllReadyH.cons (take_d rfl) (fun zK hK => ?_) AllReadyH.nil
      obtain ⟨A6, c6, e6, hc6, hC6⟩ := HV6.out.reads
      subst e6
      clear hc6 hC6
      rw [show (lp ++ [cFld]).length = lp.length + 1 from by simp] at HV6
      have q6 := (blk_cell (blk_below P7.out HB4.out) 6).trans rfl
      have f6 := blk_frozen (blk_below P7.out HB4.out) 6
      go_simp
      clear q6 f6
      refine hK.out _ _ ?_ (fun hHeld2 => ?_)
      · exact ⟨(blk_cell (blk_far (blk_below C7.out HB4.out) (by dsimp only; have := HBC.out; omega) _) 0).trans rfl, (blk_cell (blk_far (blk_below C7.out HB4.out) (by dsimp only; have := HBC.out; omega) _) 1).trans rfl⟩
      clear hK zK hHeld
      have hHeld := hHeld2
      clear hHeld2
      try simp only [Act.put, List.setIfInBounds_toArray, List.set_cons_zero, List.set_cons_succ]
      refine wpAnyH_done (by kernel_rfl) ?_ _
      go_wp2
      go_meet
      case rel =>
        refine ⟨.slice A6 (lp.length + 1) c6, rfl, ⟨?_⟩, ⟨?_⟩, ⟨?_⟩, ⟨?_⟩⟩
        · exact blk_put (blk_below P7.out HB4.out) 6 _ rfl
        · exact blk_far (blk_below Q7.out HB4.out) (by dsimp only; omega) _
        · exact HV6.out.far (by dsimp only; have := blk_lt P7.out; omega) _
        · exact Below.setCell (below_step B7.out HB4.out) (by dsimp only; omega) _
    refine AllReadyH.cons (take_d rfl) (fun zK hK => ?_) AllReadyH.nil
    have q6 := (blk_cell (blk_below P7.out HB1.out) 6).trans rfl
    go_simp
    clear q6
    refine hK.out _ _ ?_ (fun hHeld2 => ?_)
    · exact hHeld
    clear hK zK hHeld
    have hHeld := hHeld2
    clear hHeld2
    try simp only [Act.put, List.setIfInBounds_toArray, List.set_cons_zero, List.set_cons_succ]
    refine wpAnyH_ready (rs := [0]) (by kernel_rfl) (by simp) ?_
    refine AllReadyH.cons (take_d rfl) (fun zK hK => ?_) AllReadyH.nil
    go_simp
    refine hK.out _ _ ?_ (fun hHeld2 => ?_)
    · exact ⟨(blk_cell (blk_below C7.out (below_alloc HB1.out _)) 0).trans rfl, (blk_cell (blk_below C7.out (below_alloc HB1.out _)) 1).trans rfl⟩
    clear hK zK hHeld
    have hHeld := hHeld2
    clear hHeld2
    try simp only [Act.put, List.setIfInBounds_toArray, List.set_cons_zero, List.set_cons_succ]
    refine anyH_at (fun W' => W'.heap[W1.heap.size]? = some (.cells #[] 37 (0, 0)) ∧ Below wa.heap.size wa W' ∧ W'.heap[W0.heap.size]? = some (.cells #[.string ⟨#[67, 111, 110, 110, 101, 99, 116, 105, 111, 110]⟩, .string ⟨#[120, 44, 32, 99, 108, 111, 115, 101]⟩] 37 (0, 0))) ⟨new_at _ rfl, HB1.out.alloc HB1.out.size _, blk_alloc H5.out _⟩ ?_ hHeld
    clear hHeld
    rintro W2 ⟨z0, z1, z2⟩ hHeld
    have HNE := Aside0.mk (show W0.heap.size ≠ W1.heap.size by have := blk_lt H5.out; omega)
    have HBE := Aside0.mk (show wa.heap.size ≤ W1.heap.size from HB1.out.size)
    have HE := Aside0.mk z0
    clear z0
    have HB2 := Aside0.mk z1
    clear z1
    have H5 := Aside0.mk z2
    clear z2
    refine wpAnyH_ready (rs := [3]) (by kernel_rfl) (by simp) ?_
    refine AllReadyH.cons (take_d rfl) (fun zK hK => ?_) AllReadyH.nil
    rw [if_pos (by rfl)]
    refine wp_plus (W0 := wa) wa.heap.size _ _ 25 (.agg #[.string ⟨#[]⟩, .string ⟨#[]⟩]) rfl Tryd.underlying25 (by kernel_rfl) (by rfl) _ [] lp A1 c1 rfl rfl (row_empty HE.out HBE.out) (Kd.C_below CP7.out HB2.out) HB2.out HB2.out.size (by have := HSF'.out; have := sumF_length lp; rw [List.length_nil]; omega) ?_
    intro v1 W3 hv hb hz hk
    refine hK.out _ _ ?_ (fun hHeld2 => ?_)
    · exact ⟨(blk_cell (blk_below C7.out hb) 0).trans rfl, (blk_cell (blk_below C7.out hb) 1).trans rfl⟩
    clear hK zK hHeld
    have hHeld := hHeld2
    clear hHeld2
    try simp only [Act.put, List.setIfInBounds_toArray, List.set_cons_zero, List.set_cons_succ]
    have HV := Aside0.mk (show RowF W3 wa.heap.size v1 lp from hv)
    have HB3 := Aside0.mk hb
    have H5 := Aside0.mk (hk _ _ H5.out (fun e => HNE.out (Option.some.inj e)))
    clear hv hb hz hk
    refine wpAnyH_ready (rs := [6]) (by kernel_rfl) (by simp) ?_
    refine AllReadyH.cons (take_d rfl) (fun zK hK => ?_) AllReadyH.nil
    rw [if_pos (by rfl)]
    refine wp_plus (W0 := wa) wa.heap.size _ _ 25 (.agg #[.string ⟨#[]⟩, .string ⟨#[]⟩]) rfl Tryd.underlying25 (by kernel_rfl) (by rfl) v1 lp [cFld] (some ⟨W0.heap.size, 0, none⟩) 1 rfl rfl HV.out (C_one cFld H5.out) HB3.out HB3.out.size (by have := HSF'.out; have := sumF_length lp; rw [List.length_singleton]; omega) ?_
    intro v6 W4 hv hb hz hk
    refine hK.out _ _ ?_ (fun hHeld2 => ?_)
    · exact ⟨(blk_cell (blk_below C7.out hb) 0).trans rfl, (blk_cell (blk_below C7.out hb) 1).trans rfl⟩
    clear hK zK hHeld
    have hHeld := hHeld2
    clear hHeld2
    try simp only [Act.put, List.setIfInBounds_toArray, List.set_cons_zero, List.set_cons_succ]
    have HV6 := Aside0.mk hv
    have HB4 := Aside0.mk hb
    clear hv hb hz hk
    refine take_at (i := 7) (take_d rfl) ?_
    intro h_i
    refine wpAnyH_take (v := ?_) h_i (by kernel_rfl) (by kernel_rfl) (by kernel_rfl) (fun _ _ _ h => h) (Or.inl ⟨by rfl, ?_⟩) (by assumption) ?_
    case refine_2 => (intro w hSw; (try dsimp only at hSw); go_simp; (try with_reducible rfl))
    clear h_i
    try simp only [Act.put, List.setIfInBounds_toArray, List.set_cons_zero, List.set_cons_succ]
    refine wpAnyH_ready (rs := [8]) (by kernel_rfl) (by simp) ?_
    refine AllReadyH.cons (take_d rfl) (fun zK hK => ?_) AllReadyH.nil
    obtain ⟨A6, c6, e6, hc6, hC6⟩ := HV6.out.reads
    subst e6
    clear hc6 hC6
    rw [show (lp ++ [cFld]).length = lp.length + 1 from by simp] at HV6
    have q6 := (blk_cell (blk_below P7.out HB4.out) 6).trans rfl
    have f6 := blk_frozen (blk_below P7.out HB4.out) 6
    go_simp
    clear q6 f6
    refine hK.out _ _ ?_ (fun hHeld2 => ?_)
    · exact ⟨(blk_cell (blk_far (blk_below C7.out HB4.out) (by dsimp only; have := HBC.out; omega) _) 0).trans rfl, (blk_cell (blk_far (blk_below C7.out HB4.out) (by dsimp only; have := HBC.out; omega) _) 1).trans rfl⟩
    clear hK zK hHeld
    have hHeld := hHeld2
    clear hHeld2
    try simp only [Act.put, List.setIfInBounds_toArray, List.set_cons_zero, List.set_cons_succ]
    refine wpAnyH_done (by kernel_rfl) ?_ _
    go_wp2
    go_meet
    case rel =>
      refine ⟨.slice A6 (lp.length + 1) c6, rfl, ⟨?_⟩, ⟨?_⟩, ⟨?_⟩, ⟨?_⟩⟩
      · exact blk_put (blk_below P7.out HB4.out) 6 _ rfl
      · exact blk_far (blk_below Q7.out HB4.out) (by dsimp only; omega) _
      · exact HV6.out.far (by dsimp only; have := blk_lt P7.out; omega) _
      · exact Below.setCell (below_step B7.out HB4.out) (by dsimp only; omega) _
  case rest =>
    obtain ⟨v6, rfl, X8, Y8, R8, B8⟩ := hcut
    obtain ⟨A6, c6, rfl, hc6, hC6⟩ := R8.out.reads
    have P8 := Aside0.mk (show HaAt wc (w.heap.size + 1) o' ik' iz' ok' oz' rest' A6 (lp ++ [cFld]).length c6 from X8.out)
    have Q8 := Aside0.mk (show HaAt wc w.heap.size o ik iz ok oz rest A0 lq.length c0 from Y8.out)
    have KP := Aside0.mk hC6
    have DP := Aside0.mk hc6
    have KQ := Aside0.mk (HBL.out _ B8.out).1
    have DQ := Aside0.mk HC0.out
    have HJF := Aside0.mk (judge_closeP o ik iz ok oz rest lq o' ik' iz' ok' oz' rest' lp (by have := HSF.out; omega) (by have := HSF'.out; omega))
    clear hc6 hC6 X8 Y8 R8
    generalize lp ++ [cFld] = lx at *
    go_upto_region 9 with (fail)
    refine wp_region_held_drew (S := (fun W => W.cell? ⟨w.heap.size, 0, none⟩ = some (.int .i64 o) ∧ W.cell? ⟨w.heap.size, 1, none⟩ = some (.int .i64 ik) ∧ W.cell? ⟨w.heap.size, 2, none⟩ = some (.int .u64 iz) ∧ W.cell? ⟨w.heap.size, 3, none⟩ = some (.int .i64 ok) ∧ W.cell? ⟨w.heap.size, 4, none⟩ = some (.int .u64 oz) ∧ W.cell? ⟨w.heap.size, 5, none⟩ = some (.int .i64 rest) ∧ W.cell? ⟨w.heap.size, 6, none⟩ = some (.slice A0 lq.length c0) ∧ W.cell? ⟨w.heap.size + 1, 0, none⟩ = some (.int .i64 o') ∧ W.cell? ⟨w.heap.size + 1, 1, none⟩ = some (.int .i64 ik') ∧ W.cell? ⟨w.heap.size + 1, 2, none⟩ = some (.int .u64 iz') ∧ W.cell? ⟨w.heap.size + 1, 3, none⟩ = some (.int .i64 ok') ∧ W.cell? ⟨w.heap.size + 1, 4, none⟩ = some (.int .u64 oz') ∧ W.cell? ⟨w.heap.size + 1, 5, none⟩ = some (.int .i64 rest') ∧ W.cell? ⟨w.heap.size + 1, 6, none⟩ = some (.slice A6 lx.length c6))) (by kernel_rfl) ?_ (fun hHeld => ?_)
    · exact and14 (blk_below Q8.out (by repeat (first | exact Below.refl _ _ | refine below_step ?_ (by assumption) | apply below_alloc | apply below_drew1))) (blk_below P8.out (by repeat (first | exact Below.refl _ _ | refine below_step ?_ (by assumption) | apply below_alloc | apply below_drew1)))
    refine take_at (i := 0) (take_d rfl) ?_
    intro h_i
    refine wpAnyH_take (v := ?_) h_i (by kernel_rfl) (by kernel_rfl) (by kernel_rfl) (fun _ _ _ h => h) (Or.inl ⟨by rfl, ?_⟩) (by assumption) ?_
    case refine_2 => (intro w hSw; (try dsimp only at hSw); go_simp; (try with_reducible rfl))
    clear h_i
    try simp only [Act.put, List.setIfInBounds_toArray, List.set_cons_zero, List.set_cons_succ]
    refine take_at (i := 2) (take_d rfl) ?_
    intro h_i
    refine wpAnyH_take (v := ?_) h_i (by kernel_rfl) (by kernel_rfl) (by kernel_rfl) (fun _ _ _ h => h) (Or.inl ⟨by rfl, ?_⟩) (by assumption) ?_
    case refine_2 => (intro w hSw; (try dsimp only at hSw); go_simp; (try with_reducible rfl))
    clear h_i
    try simp only [Act.put, List.setIfInBounds_toArray, List.set_cons_zero, List.set_cons_succ]
    refine take_at (i := 5) (take_d rfl) ?_
    intro h_i
    refine wpAnyH_take (v := ?_) h_i (by kernel_rfl) (by kernel_rfl) (by kernel_rfl) (fun _ _ _ h => h) (Or.inl ⟨by rfl, ?_⟩) (by assumption) ?_
    case refine_2 => (intro w hSw; (try dsimp only at hSw); go_simp; (try with_reducible rfl))
    clear h_i
    try simp only [Act.put, List.setIfInBounds_toArray, List.set_cons_zero, List.set_cons_succ]
    refine wpAnyH_ready (rs := [1]) (by kernel_rfl) (by simp) ?_
    refine AllReadyH.cons (take_d rfl) (fun zK hK => ?_) AllReadyH.nil
    go_simp
    refine (of_calls _ _ _ _ _ _ _ _ _ _).mono ?_
    rintro e w10 ⟨rfl, b10⟩
    go_wp2_with fail
    refine hK.out _ _ ?_ (fun hHeld2 => ?_)
    · exact and14 (blk_below Q8.out (by repeat (first | exact Below.refl _ _ | refine below_step ?_ (by assumption) | apply below_alloc | apply below_drew1))) (blk_below P8.out (by repeat (first | exact Below.refl _ _ | refine below_step ?_ (by assumption) | apply below_alloc | apply below_drew1)))
    clear hK zK hHeld
    have hHeld := hHeld2
    clear hHeld2
    try simp only [Act.put, List.setIfInBounds_toArray, List.set_cons_zero, List.set_cons_succ]
    refine wpAnyH_ready (rs := [3]) (by kernel_rfl) (by simp) ?_
    refine AllReadyH.cons (take_d rfl) (fun zK hK => ?_) AllReadyH.nil
    go_simp
    refine (of_calls _ _ _ _ _ _ _ _ _ _).mono ?_
    rintro e w11 ⟨rfl, b11⟩
    go_wp2_with fail
    refine hK.out _ _ ?_ (fun hHeld2 => ?_)
    · exact and14 (blk_below Q8.out (by repeat (first | exact Below.refl _ _ | refine below_step ?_ (by assumption) | apply below_alloc | apply below_drew1))) (blk_below P8.out (by repeat (first | exact Below.refl _ _ | refine below_step ?_ (by assumption) | apply below_alloc | apply below_drew1)))
    clear hK zK hHeld
    have hHeld := hHeld2
    clear hHeld2
    try simp only [Act.put, List.setIfInBounds_toArray, List.set_cons_zero, List.set_cons_succ]
    refine wpAnyH_ready (rs := [4]) (by kernel_rfl) (by simp) ?_
    refine AllReadyH.cons (take_d rfl) (fun zK hK => ?_) AllReadyH.nil
    go_simp
    refine Calls.mono (reuse_Judge.calls o ik iz ok oz rest A0 c0 lq o' ik' iz' ok' oz' rest' A6 c6 lx false false _ (Kd.C_below KQ.out (by repeat (first | exact Below.refl _ _ | refine below_step ?_ (by assumption) | apply below_alloc | apply below_drew1))) DQ.out (Kd.C_below KP.out (by repeat (first | exact Below.refl _ _ | refine below_step ?_ (by assumption) | apply below_alloc | apply below_drew1))) DP.out (HBL.out _ (below_step B8.out (by repeat (first | exact Below.refl _ _ | refine below_step ?_ (by assumption) | apply below_alloc | apply below_drew1)))).2.2 HJF.out) ?_
    rintro e w12 ⟨rfl, b12⟩
    go_wp2_with fail
    refine hK.out _ _ ?_ (fun hHeld2 => ?_)
    · exact and14 (blk_below Q8.out (by repeat (first | exact Below.refl _ _ | refine below_step ?_ (by assumption) | apply below_alloc | apply below_drew1))) (blk_below P8.out (by repeat (first | exact Below.refl _ _ | refine below_step ?_ (by assumption) | apply below_alloc | apply below_drew1)))
    clear hK zK hHeld
    have hHeld := hHeld2
    clear hHeld2
    try simp only [Act.put, List.setIfInBounds_toArray, List.set_cons_zero, List.set_cons_succ]
    refine take_at (i := 6) (take_d rfl) ?_
    intro h_i
    refine wpAnyH_take (v := ?_) h_i (by kernel_rfl) (by kernel_rfl) (by kernel_rfl) (fun _ _ _ h => h) (Or.inl ⟨by rfl, ?_⟩) (by assumption) ?_
    case refine_2 => (intro w hSw; (try dsimp only at hSw); go_simp; (try with_reducible rfl))
    clear h_i
    try simp only [Act.put, List.setIfInBounds_toArray, List.set_cons_zero, List.set_cons_succ]
    refine take_at (i := 7) (take_d rfl) ?_
    intro h_i
    refine wpAnyH_take (v := ?_) h_i (by kernel_rfl) (by kernel_rfl) (by kernel_rfl) (fun _ _ _ h => h) (Or.inl ⟨by rfl, ?_⟩) (by assumption) ?_
    case refine_2 => (intro w hSw; (try dsimp only at hSw); go_simp; (try with_reducible rfl))
    clear h_i
    try simp only [Act.put, List.setIfInBounds_toArray, List.set_cons_zero, List.set_cons_succ]
    refine wpAnyH_done (by kernel_rfl) ?_ _
    go_wp2
    go_ret
    exact ⟨rfl, below_step B8.out (by repeat (first | exact Below.refl _ _ | refine below_step ?_ (by assumption) | apply below_alloc | apply below_drew1))⟩
end Go.Proofs.YtofegjgiocljlaaDoor.Pg
end
section
namespace Go.Proofs.YtofegjgiocljlaaDoor.Pg
open Go.RowKit Go.Proofs.YtofegjgiocljlaaDoorH Go.Proofs.YtofegjgiocljlaaDoorW.PrintWords Go.Proofs.YtofegjgiocljlaaDoorW.PrintLast Go.Proofs.YtofegjgiocljlaaDoorW.PrintMore Go.Proofs.YtofegjgiocljlaaDoor.Pr
theorem catchpitlaw25_ReuseCloses.calls (q : HalfD) (A0 : Option Addr) (c0 : Nat) (p : HalfD) (A1 : Option Addr) (c1 : Nat) (which r : Bool) (w : World) (hr0 : Kd.C k37 w A0 q.l.length q.l) (hc0 : q.l.length ≤ c0) (hr1 : Kd.C k37 w A1 p.l.length p.l) (hc1 : p.l.length ≤ c1) (hG : TabOk w) (h : catchpitlaw25_ReuseCloses.f q p which = some r) :
    Calls Tryd.prog 4 #[.agg #[.int .i64 q.o, .int .i64 q.ik, .int .u64 q.iz, .int .i64 q.ok, .int .u64 q.oz, .int .i64 q.rest, .slice A0 q.l.length c0], .agg #[.int .i64 p.o, .int .i64 p.ik, .int .u64 p.iz, .int .i64 p.ok, .int .u64 p.oz, .int .i64 p.rest, .slice A1 p.l.length c1], .bool which] w fun e w' => e = .returned (.bool r) ∧ Below w.heap.size w w' := by
  cases which with
  | true => exact closes_true q A0 c0 p A1 c1 r w hr0 hc0 hr1 hc1 hG h
  | false => exact closes_false q A0 c0 p A1 c1 r w hr0 hc0 hr1 hc1 hG h
end Go.Proofs.YtofegjgiocljlaaDoor.Pg
end
section
namespace Go.Proofs.YtofegjgiocljlaaDoor.Pure
open Go.RowKit Go.Proofs.YtofegjgiocljlaaDoorH Go.Proofs.YtofegjgiocljlaaDoor.Pg Go.Proofs.YtofegjgiocljlaaDoorW.PrintWords Go.Proofs.YtofegjgiocljlaaDoorW.PrintLast
theorem ReuseCloses (q p : HalfD) (which : Bool) (hq : q.l.length * 32 ≤ 140737488351232 ∧ ∀ f ∈ q.l, (f.f0.size ≤ 140737488351232 ∧ f.f1.size ≤ 140737488351232)) (hp : p.l.length * 32 ≤ 140737488351232 ∧ ∀ f ∈ p.l, (f.f0.size ≤ 140737488351232 ∧ f.f1.size ≤ 140737488351232)) : catchpitlaw25_ReuseCloses.f q p which = some true :=
  if_pos ⟨⟨by omega, hq.2⟩, ⟨by omega, hp.2⟩⟩
end Go.Proofs.YtofegjgiocljlaaDoor.Pure
end
section
namespace Go.Proofs.YtofegjgiocljlaaDoorH
open Go.RowKit Go.ChangeShapes Go.WideShapes Go.ChangeAt
theorem two_of {α : Type} {l : List α} (h : l.length = 2) : ∃ a b, l = [a, b] := by
  match l, h with
  | [a, b], _ => exact ⟨a, b, rfl⟩
theorem three_of {α : Type} {l : List α} (h : l.length = 3) : ∃ a b c, l = [a, b, c] := by
  match l, h with
  | [a, b, c], _ => exact ⟨a, b, c, rfl⟩
theorem six_of {α : Type} {l : List α} (h : l.length = 6) : ∃ a b c d e f, l = [a, b, c, d, e, f] := by
  match l, h with
  | [a, b, c, d, e, f], _ => exact ⟨a, b, c, d, e, f, rfl⟩
theorem cells_of_one {W : World} {cs : List Value} {y : DataW Unit × List MemPlace} {m : Nat} {x0 : Int}
    (hd : DataW.trod (fun _ => ()) Tryd.prog W 0 (fun _ => true) false m 5 cs = some y) (hy : y.1 = .lit (.int .u8 x0)) : cs = [.int .u8 x0] := by
  obtain ⟨n, e1, e2, _⟩ := DataW.trod_int Tryd.underlying5 hd
  rw [e2] at hy
  simp only [DataW.lit.injEq, Lit.int.injEq, true_and] at hy
  rw [e1, hy]
theorem cells_of_pair {W : World} {cs : List Value} {y : DataW Unit × List MemPlace} {m : Nat} {x0 x1 : Int}
    (hd : DataW.trod (fun _ => ()) Tryd.prog W 0 (fun _ => true) false m 95 cs = some y) (hy : y.1 = .agg [.lit (.int .u8 x0), .lit (.int .u8 x1)]) :
    cs = [.int .u8 x0, .int .u8 x1] := by
  have c5 : Tryd.prog.cellsOf 5 = 1 := by kernel_rfl
  have c2 : Tryd.prog.cellsOf 95 = 2 := by kernel_rfl
  obtain ⟨xs, m, _, ex, hn, hl, hel⟩ := DataW.trod_array Tryd.underlying95 hd
  rw [c2] at hn
  obtain ⟨a, b, rfl⟩ := two_of hn
  obtain ⟨u, v, rfl⟩ := two_of hl
  · rw [ex] at hy
    simp only [List.map_cons, List.map_nil, DataW.agg.injEq, List.cons.injEq, and_true] at hy
    have h0 := hel 0 (by omega)
    have h1 := hel 1 (by omega)
    simp only [c5] at h0 h1
    have e0 := cells_of_one (y := u) (by simpa using h0) hy.1
    have e1 := cells_of_one (y := v) (by simpa using h1) hy.2
    simp at e0 e1
    rw [e0, e1]
theorem cells_of_pairs {W : World} {cs : List Value} {y : DataW Unit × List MemPlace} {m : Nat} {x0 x1 x2 x3 x4 x5 : Int}
    (hd : DataW.trod (fun _ => ()) Tryd.prog W 0 (fun _ => true) false m 96 cs = some y)
    (hy : y.1 = .agg [.agg [.lit (.int .u8 x0), .lit (.int .u8 x1)], .agg [.lit (.int .u8 x2), .lit (.int .u8 x3)], .agg [.lit (.int .u8 x4), .lit (.int .u8 x5)]]) :
    cs = [.int .u8 x0, .int .u8 x1, .int .u8 x2, .int .u8 x3, .int .u8 x4, .int .u8 x5] := by
  have c2 : Tryd.prog.cellsOf 95 = 2 := by kernel_rfl
  have c6 : Tryd.prog.cellsOf 96 = 6 := by kernel_rfl
  obtain ⟨xs, m, _, ex, hn, hl, hel⟩ := DataW.trod_array Tryd.underlying96 hd
  rw [c6] at hn
  obtain ⟨a, b, c, d, e, f, rfl⟩ := six_of hn
  obtain ⟨u, v, z, rfl⟩ := three_of hl
  · rw [ex] at hy
    simp only [List.map_cons, List.map_nil, DataW.agg.injEq, List.cons.injEq, and_true] at hy
    have h0 := hel 0 (by omega)
    have h1 := hel 1 (by omega)
    have h2 := hel 2 (by omega)
    simp only [c2] at h0 h1 h2
    have e0 := cells_of_pair (y := u) (by simpa using h0) hy.1
    have e1 := cells_of_pair (y := v) (by simpa using h1) hy.2.1
    have e2 := cells_of_pair (y := z) (by simpa using h2) hy.2.2
    simp at e0 e1 e2
    rw [e0.1, e0.2, e1.1, e1.2, e2.1, e2.2]
theorem tabOk_of_laid {W : World} {L : List (String × DataW Unit)} (h : laidMetH Tryd.prog L W) (hp : (L.all fun x => x.2.handleName?.isNone) = true)
    (hf : L.filter (fun x => x.1 == "catchpit/octet.ends") = [("catchpit/octet.ends", Go.Proofs.YtofegjgiocljlaaDoor.Rows.laid_catchpit_octet_ends)]) (hs : W.ShapedOpen Tryd.prog) : TabOk W := by
  rw [MakeChecks.laidMetH_plain _ _ _ hp] at h
  have h2 := laidMet.filter (fun x => x.1 == "catchpit/octet.ends") h
  rw [hf] at h2
  obtain ⟨ps, ⟨g, t, cs, fuel, p, q, hg, ht, hv, hd, _, _⟩, _, _⟩ := h2
  obtain rfl := Option.some.inj ((show Tryd.prog.globalNamed "catchpit/octet.ends" = some 0 by kernel_rfl).symm.trans hg)
  obtain rfl := Option.some.inj ((show (Tryd.prog.globals[0]?).map (·.type) = some 96 by kernel_rfl).symm.trans ht)
  have e := cells_of_pairs hd rfl
  have hc := World.var?_cell hg hv
  have at_ : ∀ j, cs[j]? = cs.toList[j]? := fun j => (Array.getElem?_toList ..).symm
  rw [e] at at_
  exact ⟨(hc 0).trans (at_ 0), (hc 1).trans (at_ 1), (hc 2).trans (at_ 2), (hc 3).trans (at_ 3), (hc 4).trans (at_ 4), (hc 5).trans (at_ 5), MxOk.of_shaped hs⟩
end Go.Proofs.YtofegjgiocljlaaDoorH
end
section
namespace Go.Proofs.YtofegjgiocljlaaDoorH
open Go
variable {H : Type} {enc : TypeId × Value → H}
theorem returns_and_shaped {a : Assume} {C : Checked} {os : Os} {f : FuncId} {fn : Func} {s : ChangeSpec} {conds : List PathCond} {apart fresh handsOn again : Bool} {X : World → Array Value → Prop}
    (hX : ∀ (w w' : World) (args : Array Value), w.heap = w'.heap → X w args → X w' args)
    (own : ownKnob C.prog.godebug = none) (started : os.Started) (noInit : C.prog.inits.idxOf? f = none) (hfn : C.prog.funcs[f]? = some fn)
    (witness : ∃ (w : World) (tape : Tape) (i : Input), w.os = os ∧ (w.forCall tape i).Shaped C.prog ∧ i.vars = [] ∧ Input.okWide C.prog (w.forCall tape i) .any w.heap.size f i ∧
      ((s.pre enc C.prog fn conds apart (w.forCall tape i).memory i.args ∧ X (w.forCall tape i).memory i.args) ∧ sizedMet enc C.prog fn (OpenSpec.ofChange s) apart (w.forCall tape i).memory i.args) ∧ a.holds C.prog (lone (Frame.enter C.prog f i.args .normal) [] (w.forCall tape i)))
    (contract : ∀ (W : World) (base : Nat) (args : Array Value) (ds gs : List (DataW H)) (before : List MemPlace),
      (∀ (j : Nat) t v, fn.params[j]? = some t → args[j]? = some v → Value.okWide C.prog W .any base t v) →
      DataW.Whole enc C.prog fn.params.toList s.vars apart W args.toList ds gs before →
      conds.all (PathCond.test C.prog ⟨fn.params.toList, ds, s.plain.varTypes C.prog, gs⟩) = true →
      (DataW.weightsEach C.prog (fn.params.toList ++ s.plain.varTypes C.prog) (ds ++ gs)).all (· ≤ reachBytes) = true → X W args →
      W.ShapedOpen C.prog →
      a.holds C.prog (lone (Frame.enter C.prog f args .normal) [] W) →
      Calls C.prog f args W fun e W' => ∃ v, e = .returned v ∧ s.post enc C.prog fn apart fresh handsOn again W args v W') :
    ReturnsInHanded a C os f .any (fun w args => (s.pre enc C.prog fn conds apart w args ∧ X w args) ∧ sizedMet enc C.prog fn (OpenSpec.ofChange s) apart w args) (s.post enc C.prog fn apart fresh handsOn again) := by
  refine returnsInHanded_of_calls own started noInit witness ?_
  intro w tape i _ hsh _ hok hpre hholds
  obtain ⟨_, _, _, fn', hfn', _, _, _, _, hval⟩ := hok
  have e : fn' = fn := Option.some.inj (hfn'.symm.trans hfn)
  subst e
  obtain ⟨⟨⟨ds, gs, before, hw, hc⟩, hx⟩, hz⟩ := hpre
  have hw' := DataW.Whole.of_heap (w' := w.forCall tape i) (by rfl) hw
  refine (contract (w.forCall tape i) w.heap.size i.args ds gs before hval hw' hc (hz.weights hw) (hX _ _ _ (by rfl) hx) hsh hholds).mono fun e W' ⟨v, he, hp⟩ => ?_
  subst he
  exact ChangeSpec.post_blind hp
end Go.Proofs.YtofegjgiocljlaaDoorH
end
