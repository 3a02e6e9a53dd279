import Derived.Test.YtmmbpbgcobmifaaDoorZDechunkPiecesP6
import Derived.Test.YtmmbpbgcobmifaaDoorZDechunkPiecesP4
import Derived.Laws.EntriesVeiled
import Derived.Scope
import Derived.Lib.SlBytesConst
namespace Go.Proofs.YtmmbpbgcobmifaaDoorW.PrintWords
end Go.Proofs.YtmmbpbgcobmifaaDoorW.PrintWords
namespace Go.Proofs.YtmmbpbgcobmifaaDoorW.PrintLast
end Go.Proofs.YtmmbpbgcobmifaaDoorW.PrintLast
namespace Go.Proofs.YtmmbpbgcobmifaaDoorW.PrintMore
end Go.Proofs.YtmmbpbgcobmifaaDoorW.PrintMore
namespace Go.Proofs.YtmmbpbgcobmifaaDoor.Pr
end Go.Proofs.YtmmbpbgcobmifaaDoor.Pr
namespace Go.Proofs.YtmmbpbgcobmifaaDoorM
end Go.Proofs.YtmmbpbgcobmifaaDoorM
section
namespace Go.Proofs.YtmmbpbgcobmifaaDoor.Pr
end Go.Proofs.YtmmbpbgcobmifaaDoor.Pr
namespace Go.Proofs.YtmmbpbgcobmifaaDoorH
set_option linter.unusedVariables false
set_option linter.unusedSimpArgs false
open Go Go.RowKit Go.Proofs.YtmmbpbgcobmifaaDoorW.PrintWords Go.Proofs.YtmmbpbgcobmifaaDoorW.PrintLast Go.Proofs.YtmmbpbgcobmifaaDoorW.PrintMore Go.Proofs.YtmmbpbgcobmifaaDoor.Pr Go.Proofs.YtmmbpbgcobmifaaDoorM
set_option maxHeartbeats 4000000 in
set_option maxRecDepth 100000 in
theorem named_does (B b e0 e1 e2 : Nat) (X : MSt Fld) (lv fv : Value) (tk gv : Nat) (c : Int) (w : World) (h : AtD w B b e0 e1 e2 X X.count lv fv tk gv 0) (hG : Keeps B w TabOk) (hB : B ≤ w.heap.size) (hb : 0 ≤ c ∧ c ≤ 255) (hz : X.size ≤ 1000000) (ht : X.text.length ≤ 1000000) (hp : X.place = 7) :
    Calls Tryd.prog 60 #[.pointer (some ⟨b, 0, none⟩), .int .u8 c] w (TakeD w B b e0 e1 e2 X lv fv tk gv c) := by
  have H := Aside0.mk h
  have HP := Aside0.mk hp
  have HG := Aside0.mk hG
  clear h hp hG
  by_cases hs : c = 58
  · subst hs
    by_cases hfull : e2 ≤ X.size
    · have HM := Aside0.mk (more_full B b e0 e1 e2 X X.count lv fv tk gv 58 8 w H.out hB hfull)
      go_enter Tryd.func60, Tryd.ntmps60
      go_wp2_with fail
      refine HM.out.mono ?_
      rintro e wm ⟨rfl, hm, hf⟩
      have HMM := Aside0.mk hm
      have HMF := Aside0.mk ((Far.refl w B b lv fv).trans hf)
      clear hm hf
      go_wp2
      go_ret
      exact take_bad 5 HMM.out HMF.out (((step7 HP.out).trans (if_pos rfl)).trans (line_full (show (envM e0 e1 e2).e2 ≤ _ from hfull))) (by decide)
    · have hon : X.size < e2 := by omega
      have HM := Aside0.mk (more_on B b e0 e1 e2 X X.count lv fv tk gv 58 8 w H.out hB hon hz ht)
      go_enter Tryd.func60, Tryd.ntmps60
      go_wp2_with fail
      refine HM.out.mono ?_
      rintro e wm ⟨lv', rfl, hm, hf⟩
      have HMM := Aside0.mk hm
      have HMF := Aside0.mk ((Far.refl w B b lv fv).trans hf)
      clear hm hf
      go_wp2
      go_ret
      exact take_ok (Y := { X with size := X.size + 1, text := X.text ++ [58], place := 8 }) HMM.out HMF.out (((step7 HP.out).trans (if_pos rfl)).trans (line_on (show _ < (envM e0 e1 e2).e2 from hon) (by simp)))
  · have hc' : (c == 58) = false := by rw [beq_eq_false_iff_ne]; exact hs
    have hcv := one_byte w c
    have HBA := Aside0.mk (below_alloc (Below.refl w.heap.size w) (.cells #[.int .u8 c] 5))
    have HTX := Aside0.mk (octet_Token.calls _ _ (w.alloc (.cells #[.int .u8 c] 5)) (HG.out _ (HBA.out.mono hB)) (token_eq1 hb))
    go_enter Tryd.func60, Tryd.ntmps60
    go_wp2_with fail
    refine HTX.out.mono ?_
    rintro e w2 ⟨rfl, hb2⟩
    have HB2 := Aside0.mk (HBA.out.trans (hb2.mono HBA.out.size))
    have H2 := Aside0.mk (H.out.below HB2.out)
    have HF2 := Aside0.mk (show Far w w2 B b lv fv lv fv from Far.of_below HB2.out hB)
    have hB2 := Nat.le_trans hB HB2.out.size
    clear hb2 hcv
    cases htx : tokI c with
    | false =>
      go_wp2
      go_ret
      exact take_bad 2 H2.out HF2.out ((step7 HP.out).trans ((if_neg hs).trans (if_pos htx))) (by decide)
    | true =>
      have HX := Aside0.mk htx
      clear htx
      by_cases hfull : e2 ≤ X.size
      · have HM := Aside0.mk (more_full B b e0 e1 e2 X X.count lv fv tk gv c 7 w2 H2.out hB2 hfull)
        go_wp2_with fail
        refine HM.out.mono ?_
        rintro e wm ⟨rfl, hm, hf⟩
        have HMM := Aside0.mk hm
        have HMF := Aside0.mk (HF2.out.trans hf)
        clear hm hf
        go_wp2
        go_ret
        exact take_bad 5 HMM.out HMF.out (((step7 HP.out).trans ((if_neg hs).trans (if_neg (by show ¬ tokI c = false; rw [HX.out]; decide)))).trans (line_full (show (envM e0 e1 e2).e2 ≤ _ from hfull))) (by decide)
      · have hon : X.size < e2 := by omega
        have HM := Aside0.mk (more_on B b e0 e1 e2 X X.count lv fv tk gv c 7 w2 H2.out hB2 hon hz ht)
        go_wp2_with fail
        refine HM.out.mono ?_
        rintro e wm ⟨lv', rfl, hm, hf⟩
        have HMM := Aside0.mk hm
        have HMF := Aside0.mk (HF2.out.trans hf)
        clear hm hf
        go_wp2
        go_ret
        exact take_ok (Y := { X with size := X.size + 1, text := X.text ++ [c], place := 7 }) HMM.out HMF.out (((step7 HP.out).trans ((if_neg hs).trans (if_neg (by show ¬ tokI c = false; rw [HX.out]; decide)))).trans ((line_on (show X.size < (envM e0 e1 e2).e2 from hon) (fun h => by have h1 := HP.out; have h2 : X.place = 9 := h.2; omega)).trans (by rw [← HP.out])))
set_option maxHeartbeats 4000000 in
set_option maxRecDepth 100000 in
theorem valued_does (B b e0 e1 e2 : Nat) (X : MSt Fld) (lv fv : Value) (tk gv : Nat) (c : Int) (w : World) (h : AtD w B b e0 e1 e2 X X.count lv fv tk gv 0) (hG : Keeps B w TabOk) (hB : B ≤ w.heap.size) (hb : 0 ≤ c ∧ c ≤ 255) (hz : X.size ≤ 1000000) (ht : X.text.length ≤ 1000000) (hp : X.place = 8) :
    Calls Tryd.prog 61 #[.pointer (some ⟨b, 0, none⟩), .int .u8 c] w (TakeD w B b e0 e1 e2 X lv fv tk gv c) := by
  have H := Aside0.mk h
  have HP := Aside0.mk hp
  have HG := Aside0.mk hG
  clear h hp hG
  by_cases hs : c = 13
  · subst hs
    by_cases hfull : e2 ≤ X.size
    · have HM := Aside0.mk (more_full B b e0 e1 e2 X X.count lv fv tk gv 13 9 w H.out hB hfull)
      go_enter Tryd.func61, Tryd.ntmps61
      go_wp2_with fail
      refine HM.out.mono ?_
      rintro e wm ⟨rfl, hm, hf⟩
      have HMM := Aside0.mk hm
      have HMF := Aside0.mk ((Far.refl w B b lv fv).trans hf)
      clear hm hf
      go_wp2
      go_ret
      exact take_bad 5 HMM.out HMF.out (((step8 HP.out).trans (if_pos rfl)).trans (line_full (show (envM e0 e1 e2).e2 ≤ _ from hfull))) (by decide)
    · have hon : X.size < e2 := by omega
      have HM := Aside0.mk (more_on B b e0 e1 e2 X X.count lv fv tk gv 13 9 w H.out hB hon hz ht)
      go_enter Tryd.func61, Tryd.ntmps61
      go_wp2_with fail
      refine HM.out.mono ?_
      rintro e wm ⟨lv', rfl, hm, hf⟩
      have HMM := Aside0.mk hm
      have HMF := Aside0.mk ((Far.refl w B b lv fv).trans hf)
      clear hm hf
      go_wp2
      go_ret
      exact take_ok (Y := { X with size := X.size + 1, text := X.text ++ [13], place := 9 }) HMM.out HMF.out (((step8 HP.out).trans (if_pos rfl)).trans (line_on (show _ < (envM e0 e1 e2).e2 from hon) (by simp)))
  · have hc' : (c == 13) = false := by rw [beq_eq_false_iff_ne]; exact hs
    have hcv := one_byte w c
    have HBA := Aside0.mk (below_alloc (Below.refl w.heap.size w) (.cells #[.int .u8 c] 5))
    have HTX := Aside0.mk (octet_Text.calls _ _ (w.alloc (.cells #[.int .u8 c] 5)) (HG.out _ (HBA.out.mono hB)) (textB_eq c))
    go_enter Tryd.func61, Tryd.ntmps61
    go_wp2_with fail
    refine HTX.out.mono ?_
    rintro e w2 ⟨rfl, hb2⟩
    have HB2 := Aside0.mk (HBA.out.trans (hb2.mono HBA.out.size))
    have H2 := Aside0.mk (H.out.below HB2.out)
    have HF2 := Aside0.mk (show Far w w2 B b lv fv lv fv from Far.of_below HB2.out hB)
    have hB2 := Nat.le_trans hB HB2.out.size
    clear hb2 hcv
    cases htx : textB c with
    | false =>
      go_wp2
      go_ret
      exact take_bad 2 H2.out HF2.out ((step8 HP.out).trans ((if_neg hs).trans (if_pos htx))) (by decide)
    | true =>
      have HX := Aside0.mk htx
      clear htx
      by_cases hfull : e2 ≤ X.size
      · have HM := Aside0.mk (more_full B b e0 e1 e2 X X.count lv fv tk gv c 8 w2 H2.out hB2 hfull)
        go_wp2_with fail
        refine HM.out.mono ?_
        rintro e wm ⟨rfl, hm, hf⟩
        have HMM := Aside0.mk hm
        have HMF := Aside0.mk (HF2.out.trans hf)
        clear hm hf
        go_wp2
        go_ret
        exact take_bad 5 HMM.out HMF.out (((step8 HP.out).trans ((if_neg hs).trans (if_neg (by show ¬ textB c = false; rw [HX.out]; decide)))).trans (line_full (show (envM e0 e1 e2).e2 ≤ _ from hfull))) (by decide)
      · have hon : X.size < e2 := by omega
        have HM := Aside0.mk (more_on B b e0 e1 e2 X X.count lv fv tk gv c 8 w2 H2.out hB2 hon hz ht)
        go_wp2_with fail
        refine HM.out.mono ?_
        rintro e wm ⟨lv', rfl, hm, hf⟩
        have HMM := Aside0.mk hm
        have HMF := Aside0.mk (HF2.out.trans hf)
        clear hm hf
        go_wp2
        go_ret
        exact take_ok (Y := { X with size := X.size + 1, text := X.text ++ [c], place := 8 }) HMM.out HMF.out (((step8 HP.out).trans ((if_neg hs).trans (if_neg (by show ¬ textB c = false; rw [HX.out]; decide)))).trans ((line_on (show X.size < (envM e0 e1 e2).e2 from hon) (fun h => by have h1 := HP.out; have h2 : X.place = 9 := h.2; omega)).trans (by rw [← HP.out])))
set_option maxHeartbeats 4000000 in
set_option maxRecDepth 100000 in
theorem first_does (B b e0 e1 e2 : Nat) (X : MSt Fld) (lv fv : Value) (tk gv : Nat) (c : Int) (w : World) (h : AtD w B b e0 e1 e2 X X.count lv fv tk gv 0) (hG : Keeps B w TabOk) (hB : B ≤ w.heap.size) (hb : 0 ≤ c ∧ c ≤ 255) (hz : X.size ≤ 1000000) (ht : X.text.length ≤ 1000000) (hl : X.lines ≤ 1000000) (hp : X.place = 6) :
    Calls Tryd.prog 59 #[.pointer (some ⟨b, 0, none⟩), .int .u8 c] w (TakeD w B b e0 e1 e2 X lv fv tk gv c) := by
  have H := Aside0.mk h
  have HP := Aside0.mk hp
  have HG := Aside0.mk hG
  clear h hp hG
  by_cases hs : c = 13
  · subst hs
    have HT := Aside0.mk (to_on b 10 _ w H.out.c3 (H.out.fz 3))
    go_enter Tryd.func59, Tryd.ntmps59
    go_wp2_with fail
    refine HT.out.mono ?_
    rintro e w1 ⟨rfl, rfl⟩
    go_wp2
    go_ret
    exact take_ok (Y := { X with place := 10 }) (H.out.s3 10) (Far.only (Only.set _ _ _) H.out.hb) ((step6 HP.out).trans (if_pos rfl))
  · have hc' : (c == 13) = false := by rw [beq_eq_false_iff_ne]; exact hs
    have hcv := one_byte w c
    have HBA := Aside0.mk (below_alloc (Below.refl w.heap.size w) (.cells #[.int .u8 c] 5))
    have HTX := Aside0.mk (octet_Token.calls _ _ (w.alloc (.cells #[.int .u8 c] 5)) (HG.out _ (HBA.out.mono hB)) (token_eq1 hb))
    go_enter Tryd.func59, Tryd.ntmps59
    go_wp2_with fail
    refine HTX.out.mono ?_
    rintro e w2 ⟨rfl, hb2⟩
    have HB2 := Aside0.mk (HBA.out.trans (hb2.mono HBA.out.size))
    have H2 := Aside0.mk (H.out.below HB2.out)
    have HF2 := Aside0.mk (show Far w w2 B b lv fv lv fv from Far.of_below HB2.out hB)
    have hB2 := Nat.le_trans hB HB2.out.size
    clear hb2 hcv
    cases htx : tokI c with
    | false =>
      go_wp2
      go_ret
      exact take_bad 2 H2.out HF2.out ((step6 HP.out).trans ((if_neg hs).trans (if_pos htx))) (by decide)
    | true =>
      have HX := Aside0.mk htx
      clear htx
      have k1 := H2.out.c1
      have k6 := H2.out.c6
      by_cases hle : e1 ≤ X.lines
      · have hle' : (e1 : Int) ≤ (X.lines : Int) := by omega
        go_wp2_with fail
        go_region_held3 (fun W => W.cell? ⟨b, 6, none⟩ = some (.int .i64 (X.lines : Int)) ∧ W.cell? ⟨b, 1, none⟩ = some (.int .i64 (e1 : Int))) (exact ⟨k6, k1⟩) (fail)
        go_wp2
        go_ret
        exact take_bad 5 (H2.out.below (below_drew (Below.refl _ _))) (HF2.out.trans (Far.of_below (below_drew (Below.refl _ _)) hB2)) ((step6 HP.out).trans ((if_neg hs).trans ((if_neg (by show ¬ tokI c = false; rw [HX.out]; decide)).trans (if_pos hle)))) (by decide)
      · have hle' : ¬ (e1 : Int) ≤ (X.lines : Int) := by omega
        obtain ⟨n1, hn1⟩ : ∃ n1, X.lines + 1 = n1 := ⟨_, rfl⟩
        have hw1 : IntKind.i64.wrap ((X.lines : Int) + 1) = (n1 : Int) := by
          unfold IntKind.wrap
          simp [IntKind.bits, IntKind.signed]
          omega
        have HST := Aside0.mk (show mstep (envM e0 e1 e2) X c = mline (envM e0 e1 e2) { X with lines := X.lines + 1, place := 7 } c from (step6 HP.out).trans ((if_neg hs).trans ((if_neg (by show ¬ tokI c = false; rw [HX.out]; decide)).trans (if_neg hle))))
        rw [hn1] at HST
        clear hn1
        go_wp2_with fail
        go_region_held3 (fun W => W.cell? ⟨b, 6, none⟩ = some (.int .i64 (X.lines : Int)) ∧ W.cell? ⟨b, 1, none⟩ = some (.int .i64 (e1 : Int))) (exact ⟨k6, k1⟩) (fail)
        have H3 := Aside0.mk (H2.out.below (below_drew (Below.refl w2.heap.size w2)))
        have HF3 := Aside0.mk (HF2.out.trans (Far.of_below (below_drew (Below.refl w2.heap.size w2)) hB2 : Far w2 w2.drew B b lv fv lv fv))
        by_cases hfull : e2 ≤ X.size
        · have HM := Aside0.mk (more_full B b e0 e1 e2 X X.count lv fv tk gv c 7 w2.drew H3.out hB2 hfull)
          go_wp2_with fail
          refine HM.out.mono ?_
          rintro e wm ⟨rfl, hm, hf⟩
          have HMM := Aside0.mk hm
          have HMF := Aside0.mk (HF3.out.trans hf)
          clear hm hf
          go_wp2
          go_ret
          exact take_bad 5 HMM.out HMF.out (HST.out.trans (line_full (show (envM e0 e1 e2).e2 ≤ _ from hfull))) (by decide)
        · have hon : X.size < e2 := by omega
          have HM := Aside0.mk (more_on B b e0 e1 e2 X X.count lv fv tk gv c 7 w2.drew H3.out hB2 hon hz ht)
          go_wp2_with fail
          refine HM.out.mono ?_
          rintro e wm ⟨lv', rfl, hm, hf⟩
          have HMM := Aside0.mk hm
          have HMF := Aside0.mk (HF3.out.trans hf)
          have m6 : wm.cell? ⟨b, 6, none⟩ = some (.int .i64 (X.lines : Int)) := hm.c6
          have y6 := hm.fz 6
          clear hm hf k1 k6
          go_wp2
          go_ret
          exact take_ok (Y := { X with size := X.size + 1, text := X.text ++ [c], place := 7, lines := n1 }) (HMM.out.s6 n1) (HMF.out.trans (Far.only (Only.set _ _ _) H.out.hb)) (HST.out.trans (line_on (show _ < (envM e0 e1 e2).e2 from hon) (by simp)))
end Go.Proofs.YtmmbpbgcobmifaaDoorH
end
section
namespace Go.Proofs.YtmmbpbgcobmifaaDoor.Pr
end Go.Proofs.YtmmbpbgcobmifaaDoor.Pr
namespace Go.Proofs.YtmmbpbgcobmifaaDoorH
set_option linter.unusedVariables false
set_option linter.unusedSimpArgs false
open Go Go.RowKit Go.Proofs.YtmmbpbgcobmifaaDoorW.PrintWords Go.Proofs.YtmmbpbgcobmifaaDoorW.PrintLast Go.Proofs.YtmmbpbgcobmifaaDoorW.PrintMore Go.Proofs.YtmmbpbgcobmifaaDoor.Pr Go.Proofs.YtmmbpbgcobmifaaDoorM
theorem wp_plusG {P : Program} {o : Oper} {a : Act} {K : Act → World → Prop} {Q : Exit → Act → World → Prop} {W : World} (base : Nat) (s x : Operand) (t : TypeId) (z : Value)
    (ho : o.op = .call { callee := .builtin .append, args := #[s, x], argTypes := #[t, t] })
    (ht : P.underlying t = some (.slice 53)) (hinfo : (P.info? 53).map (fun i => (i.zero, i.size, i.bytes)) = some (some z, 2, 32)) (hz : z.cells.size = 2)
    (v : Value) (pre : List Fld) (f : Fld) (g c : Nat) (hs : a.eval s = v) (hx : a.eval x = .slice (some ⟨g, 0, none⟩) 1 c) (HO : RowG W base v pre) (HC : W.heap[g]? = some (.cells #[.string f.f0, .string f.f1] 53 (0, 0))) (hbase : base ≤ W.heap.size)
    (hl : (pre.length + 1) * 32 ≤ 140737488355328)
    (h : ∀ v1 w1, RowG w1 base v1 (pre ++ [f]) → Below base W w1 → W.grownBy w1 v.ownBlock → (v1.ownBlock = v.ownBlock ∨ ∃ b', v1.ownBlock = some b' ∧ W.heap.size ≤ b') → K (a.put o.dst v1) w1) : o.wp P a W K Q := by
  obtain ⟨i0, hi, hzz⟩ := Option.map_eq_some_iff.1 hinfo
  simp only [Prod.mk.injEq] at hzz
  obtain ⟨hz0, hz1, hz2⟩ := hzz
  have hrow : ∀ k, v.ownBlock = some k → base ≤ k := own_base HO
  unfold Oper.wp
  simp only [execOp, ho, resolve, invoke, builtin, Sem.run_bind, Sem.run_pure, Result.andThen_ok, List.map_toArray, List.map_cons, List.map_nil, hs, hx]
  obtain ⟨v1, w1, hr, hown, hg, _, hat⟩ := run_append_own_at (P := P) W base t o.type 53 i0 z 2 32 ht hi hz0 hz1 hz2 hz (by decide) v pre.length _ HO ⟨g, 0, none⟩ 1 c (encG f) rfl (fun j u hu => World.news_of_block HC j u hu)
    (fun u hu => by
      unfold encG at hu
      simp at hu
      rcases hu with rfl | rfl <;> rfl) (by simp only [maxLen]; omega) hl hbase
  rw [hr]
  refine h v1 w1 ?_ ((Below.refl _ _).grown hg hbase hrow) hg (hat.imp_right fun e => ⟨_, e, Nat.le_refl _⟩)
  unfold RowG
  rw [List.length_append, List.flatMap_append, List.flatMap_cons, List.flatMap_nil, List.append_nil]
  exact hown
section
variable {W w1 : World} {B b e0 e1 e2 : Nat} {X : MSt Fld} {co : Nat} {lv fv : Value} {tk gv : Nat} {er : Int}
theorem AtD.pushF {v1 : Value} {f : Fld} (h : AtD W B b e0 e1 e2 X co lv fv tk gv er) (hf1 : RowG w1 B v1 (X.fields ++ [f])) (hb1 : Below B W w1) (hg : W.grownBy w1 fv.ownBlock) (hat : v1.ownBlock = fv.ownBlock ∨ ∃ b', v1.ownBlock = some b' ∧ W.heap.size ≤ b') :
    AtD (w1.setCell ⟨b, 9, none⟩ v1) B b e0 e1 e2 { X with fields := X.fields ++ [f] } co lv v1 tk gv er ∧ Far W (w1.setCell ⟨b, 9, none⟩ v1) B b lv fv lv v1 := by
  have hi : w1.heap[b]? = some (.cells (decC e0 e1 e2 X co lv fv tk gv er) 73 (0, 0)) := (hg.block b h.lt (fun e => h.nf e.symm)).trans h.i
  have hnb : v1.ownBlock ≠ some b := fun e => by
    obtain ⟨_, cs, hc⟩ := hf1.at b e
    have := hc.symm.trans hi
    cases this
  refine ⟨⟨by simpa using blk_set hi 9 v1, h.l.move fun k hk => ?_, hf1.move fun k hk => Below.heap_setCell _ ⟨b, 9, none⟩ v1 k (fun e => hnb (hk.trans (by rw [e]))), h.hb⟩, ⟨⟨?_, fun k ob hk hn => ?_, fun k hk => ?_⟩, hb1.trans ((Below.refl _ _).setCell (p := ⟨b, 9, none⟩) h.hb v1)⟩⟩
  · obtain ⟨_, cs, hc⟩ := h.l.at k hk
    rw [Below.heap_setCell _ ⟨b, 9, none⟩ v1 k (fun e => h.nl (hk.trans (by rw [e]))), hg.block k (blk_lt hc) (fun e => h.nlf k hk e.symm)]
  · exact Nat.le_trans hg.size (Only.set w1 9 v1 (b := b)).1.size
  · rw [Below.heap_setCell _ ⟨b, 9, none⟩ v1 k (fun e => hn (.inl e)), hg.block k (blk_lt hk) (fun e => hn (.inr (.inr e.symm)))]
    exact hk
  · rcases hk with rfl | hk | hk
    · exact .inl (.inl rfl)
    · exact .inl (.inr (.inl hk))
    · rcases hat with e | ⟨b', e, hle⟩
      · exact .inl (.inr (.inr (e ▸ hk)))
      · rw [hk] at e
        cases e
        exact .inr hle
theorem AtD.wipe (h : AtD W B b e0 e1 e2 X co lv fv tk gv er) :
    AtD (W.setCell ⟨b, 8, none⟩ (.slice none 0 0)) B b e0 e1 e2 { X with text := [] } co (.slice none 0 0) fv tk gv er ∧ Far W (W.setCell ⟨b, 8, none⟩ (.slice none 0 0)) B b lv fv (.slice none 0 0) fv := by
  refine ⟨⟨by simpa using blk_set h.i 8 (.slice none 0 0), RowD.zero _ _, h.f.move fun k hk => Below.heap_setCell _ ⟨b, 8, none⟩ _ k (fun e => h.nf (hk.trans (by rw [e]))), h.hb⟩, ⟨⟨(Only.set W 8 _ (b := b)).1.size, fun k ob hk hn => ?_, fun k hk => ?_⟩, (Below.refl _ _).setCell (p := ⟨b, 8, none⟩) h.hb _⟩⟩
  · rw [Below.heap_setCell _ ⟨b, 8, none⟩ _ k (fun e => hn (.inl e))]
    exact hk
  · rcases hk with rfl | hk | hk
    · exact .inl (.inl rfl)
    · simp [Value.ownBlock] at hk
    · exact .inl (.inr (.inr hk))
end
set_option maxHeartbeats 4000000 in
set_option maxRecDepth 100000 in
theorem line1_does (B b e0 e1 e2 : Nat) (X : MSt Fld) (lv fv : Value) (tk gv : Nat) (c : Int) (w : World) (h : AtD w B b e0 e1 e2 X X.count lv fv tk gv 0) (hG : Keeps B w TabOk) (hB : B ≤ w.heap.size) (hz : X.size ≤ 1000000) (ht : X.text.length ≤ 1000000) (hf : X.fields.length ≤ 1000000) (ht0 : 0 < X.text.length) (hp : X.place = 9) :
    Calls Tryd.prog 62 #[.pointer (some ⟨b, 0, none⟩), .int .u8 c] w (TakeD w B b e0 e1 e2 X lv fv tk gv c) := by
  have H := Aside0.mk h
  have HP := Aside0.mk hp
  have HG := Aside0.mk hG
  clear h hp hG
  by_cases hs : c = 10
  · subst hs
    by_cases hfull : e2 ≤ X.size
    · have HM := Aside0.mk (more_full B b e0 e1 e2 X X.count lv fv tk gv 10 6 w H.out hB hfull)
      go_enter Tryd.func62, Tryd.ntmps62
      go_wp2_with fail
      refine HM.out.mono ?_
      rintro e wm ⟨rfl, hm, hfr⟩
      have HMM := Aside0.mk hm
      have HMF := Aside0.mk hfr
      clear hm hfr
      go_wp2
      go_ret
      exact take_bad 5 HMM.out HMF.out ((step9 HP.out).trans ((if_neg (by decide)).trans (line_full (show (envM e0 e1 e2).e2 ≤ _ from hfull)))) (by decide)
    · have hon : X.size < e2 := by omega
      have HM := Aside0.mk (more_on B b e0 e1 e2 X X.count lv fv tk gv 10 6 w H.out hB hon hz ht)
      go_enter Tryd.func62, Tryd.ntmps62
      go_wp2_with fail
      refine HM.out.mono ?_
      rintro e wm ⟨lv', rfl, hm, hfr⟩
      have HMM := Aside0.mk hm
      have HMF := Aside0.mk hfr
      have hBm := Nat.le_trans hB hfr.m.sz
      clear HM
      obtain ⟨A1, c1, q1, hc1, hC1⟩ := hm.l.reads
      obtain ⟨L, hL⟩ : ∃ L, X.text.length + 1 = L := ⟨_, rfl⟩
      obtain ⟨m, hm2⟩ : ∃ m, m + 1 = X.text.length := ⟨X.text.length - 1, by omega⟩
      have hLl : (X.text ++ [(10 : Int)]).length = L := by rw [List.length_append]; exact hL
      dsimp only at q1 hc1 hC1
      have hC2 := Kd.C_take (m := m) hC1 (by omega)
      have hln : (X.text ++ [(10 : Int)]).take m = X.text.dropLast := by
        rw [List.dropLast_eq_take, List.take_append_of_le_length (by omega)]
        congr 1
        omega
      rw [hln] at hC2
      have hml : X.text.dropLast.length = m := by rw [List.length_dropLast]; omega
      obtain ⟨ln, hlnn⟩ : ∃ ln, strOfNums X.text.dropLast = ln := ⟨_, rfl⟩
      have HCV := Aside0.mk (fun (W : World) (hb : Below wm.heap.size wm W) => (show (convert 24 9 (.slice A1 m c1)).run Tryd.prog W = .ok (.string ln) W by
        have := Kd.C_string Tryd.underlying24 Tryd.underlying5 Tryd.underlying9 (c := c1) (Kd.C_below hC2 hb)
        rw [hml, hlnn] at this
        exact this))
      rw [hLl] at q1 hc1
      subst q1
      have hq : (Tryd.prog.info? 5).map (fun i => i.size) = some 1 := by kernel_rfl
      obtain ⟨i0, hi0, hsz⟩ := Option.map_eq_some_iff.1 hq
      have hcut := cut_to (P := Tryd.prog) 24 5 .i64 Tryd.underlying24 hi0 A1 L c1 (m : Int) (by omega) (by omega) hc1
      rw [Int.toNat_natCast] at hcut
      have hwm : IntKind.i64.wrap ((L : Int) - 2) = (m : Int) := by
        unfold IntKind.wrap
        simp [IntKind.bits, IntKind.signed]
        omega
      have HPS := Aside0.mk (fun (W : World) (hb : Below wm.heap.size wm W) => field_Parse.calls ln _ _ _ W (HG.out W (HMF.out.b.trans (hb.mono hBm))) (field_Parse_eq ln (by rw [← hlnn, Go.strOfNums_size]; omega)))
      have HFL := Aside0.mk (show pfM X.text.dropLast = ⟨parseF ln, parseV ln⟩ by rw [← hlnn]; rfl)
      have k8 : wm.cell? ⟨b, 8, none⟩ = some (.slice A1 L c1) := hm.c8
      have hblt : b < wm.heap.size := hm.lt
      have HCE := Aside0.mk (fun (W : World) (hb : Below wm.heap.size wm W) => (show W.cell? ⟨b, 8, none⟩ = some (.slice A1 L c1) ∧ (convert 24 9 (.slice A1 m c1)).run Tryd.prog W = .ok (.string ln) W from ⟨(blk_cell (blk_below HMM.out.i hb) 8).trans rfl, HCV.out W hb⟩))
      have HD := Aside0.mk (below_drew (Below.refl wm.heap.size wm))
      have HAL := Aside0.mk (below_drew (below_alloc (Below.refl wm.heap.size wm) (.cells #[.string ⟨#[]⟩, .string ⟨#[]⟩] 53)))
      have HA := Aside0.mk (fun W W' (h : Below wm.heap.size wm W) (h2 : Below W.heap.size W W') => h.trans (h2.mono h.size))
      have HBK := Aside0.mk (fun W' (h : Below (wm.alloc (.cells #[.string ⟨#[]⟩, .string ⟨#[]⟩] 53)).drew.heap.size (wm.alloc (.cells #[.string ⟨#[]⟩, .string ⟨#[]⟩] 53)).drew W') => (h.block _ (blk_lt (blk_drew (World.alloc_heap_new wm (.cells #[.string ⟨#[]⟩, .string ⟨#[]⟩] 53))))).trans (blk_drew (World.alloc_heap_new wm (.cells #[.string ⟨#[]⟩, .string ⟨#[]⟩] 53))))
      generalize hpf : parseF ln = p0 at *
      generalize hpv : parseV ln = p1 at *
      generalize (if lineB ln = true then (0 : Int) else 2) = pe at *
      clear hm hfr hC1 hC2 hln hml hlnn hpf hpv hq hi0 hsz hLl k8
      have d := HCE.out _ HD.out
      go_upto_region 6 with (fail)
      go_cut [6] (fun u6 wc => ∃ gx : Nat, u6 = .pointer (some ⟨gx, 0, none⟩) ∧ Aside0 (wc.heap[gx]? = some (.cells #[.string p0, .string p1] 53 (0, 0))) ∧ Aside0 (Below wm.heap.size wm wc) ∧ Aside0 (wm.heap.size ≤ gx))
      case first =>
        go_region_held3 (fun W => W.cell? ⟨b, 8, none⟩ = some (.slice A1 L c1) ∧ (convert 24 9 (.slice A1 m c1)).run Tryd.prog W = .ok (.string ln) W) (first | with_reducible exact d | with_reducible exact y | exact HCE.out _ HAL.out | exact HCE.out _ (below_alloc HB7.out _) | exact HCE.out _ (bset (bset HB7.out _ _ _ (Nat.le_refl _)) _ _ _ (Nat.le_refl _)))
          (first
            | (go_at_call 77; refine (HPS.out _ HD.out).mono ?_; rintro e w7 ⟨rfl, hb7⟩; have HB7 := Aside0.mk (HA.out _ _ HD.out hb7); have y := HCE.out _ HB7.out; clear hb7)
            | (go_at_call 77; refine (HPS.out _ HAL.out).mono ?_; rintro e w7 ⟨rfl, hb7⟩; have HB7 := Aside0.mk (HA.out _ _ HAL.out hb7); have y := HCE.out _ HB7.out; have hbk := HBK.out _ hb7; have p0' : w7.cell? ⟨wm.heap.size, 0, none⟩ = some (Value.string ⟨#[]⟩) := (blk_cell hbk 0).trans rfl; have fz0 := blk_frozen hbk 0; have p1' : w7.cell? ⟨wm.heap.size, 1, none⟩ = some (Value.string ⟨#[]⟩) := (blk_cell hbk 1).trans rfl; have fz1 := blk_frozen hbk 1; have HBK7 := Aside0.mk hbk; clear hb7 hbk))
        · go_wp2
          go_meet
          case rel => exact ⟨_, rfl, ⟨World.alloc_heap_new w7 _⟩, ⟨below_alloc HB7.out _⟩, ⟨HB7.out.size⟩⟩
        · go_wp2
          go_meet
          case rel => exact ⟨_, rfl, ⟨blk_put (cs := #[.string p0, .string ⟨#[]⟩]) (blk_put (cs := #[.string ⟨#[]⟩, .string ⟨#[]⟩]) HBK7.out 0 _ rfl) 1 _ rfl⟩, ⟨bset (bset HB7.out _ _ _ (Nat.le_refl _)) _ _ _ (Nat.le_refl _)⟩, ⟨Nat.le_refl _⟩⟩
      case rest =>
        obtain ⟨gx, rfl, HX, HBW, HGX⟩ := hcut
        have H6 := Aside0.mk (HMM.out.below HBW.out)
        have HF6 := Aside0.mk (HMF.out.trans (Far.of_below HBW.out hBm))
        have hB6 := Nat.le_trans hBm HBW.out.size
        obtain ⟨A2, c2, q2, _, _⟩ := H6.out.f.reads
        dsimp only at q2
        subst q2
        have HGF := Aside0.mk (show ∀ k, (Value.slice A2 X.fields.length c2).ownBlock = some k → k ≠ gx by
          intro k hk e
          obtain ⟨_, cs, hc⟩ := HMM.out.f.at k hk
          have := blk_lt hc
          have := HGX.out
          omega)
        have HA := Aside0.mk (H6.out.below (below_drew (below_alloc (Below.refl wc.heap.size wc) (.cells #[.string p0, .string p1] 53))))
        have HN := Aside0.mk (blk_drew (heap_alloc_new wc (.cells #[.string p0, .string p1] 53)))
        have HBA := Aside0.mk (below_drew (below_alloc (Below.refl wc.heap.size wc) (.cells #[.string p0, .string p1] 53)))
        have HXA := Aside0.mk (fun (W : World) (h : W.heap[gx]? = some (.cells #[.string p0, .string p1] 53 (0, 0))) => (⟨(blk_cell h 0).trans rfl, (blk_cell h 1).trans rfl⟩ : W.cell? ⟨gx, 0, none⟩ = some (.string p0) ∧ W.cell? ⟨gx, 1, none⟩ = some (.string p1)))
        have k9 : wc.drew.cell? ⟨b, 9, none⟩ = some (.slice A2 X.fields.length c2) := H6.out.c9
        have k9' : (wc.alloc (.cells #[.string p0, .string p1] 53)).cell? ⟨b, 9, none⟩ = some (.slice A2 X.fields.length c2) := HA.out.c9
        go_upto_region 7 with (fail)
        refine wp_region_held_drew (S := (fun W => W.cell? ⟨gx, 0, none⟩ = some (.string p0) ∧ W.cell? ⟨gx, 1, none⟩ = some (.string p1))) (by kernel_rfl) ?_ (fun hHeld => ?_)
        · exact HXA.out _ HX.out
        refine take_at (i := 0) (take_d rfl) ?_
        intro h_i
        refine wpAnyH_take (v := ?_) h_i (by kernel_rfl) (by kernel_rfl) (by kernel_rfl) (fun _ _ _ h => h) (Or.inl ⟨by rfl, ?_⟩) (by assumption) ?_
        case refine_2 => (intro w hSw; (try dsimp only at hSw); go_simp; (try with_reducible rfl))
        clear h_i
        try simp only [Act.put, List.setIfInBounds_toArray, List.set_cons_zero, List.set_cons_succ]
        refine take_at (i := 1) (take_d rfl) ?_
        intro h_i
        refine wpAnyH_take (v := ?_) h_i (by kernel_rfl) (by kernel_rfl) (by kernel_rfl) (fun _ _ _ h => h) (Or.inl ⟨by rfl, ?_⟩) (by assumption) ?_
        case refine_2 => (intro w hSw; (try dsimp only at hSw); go_simp; (try with_reducible rfl))
        clear h_i
        try simp only [Act.put, List.setIfInBounds_toArray, List.set_cons_zero, List.set_cons_succ]
        refine take_at (i := 2) (take_d rfl) ?_
        intro h_i
        refine wpAnyH_take (v := ?_) h_i (by kernel_rfl) (by kernel_rfl) (by kernel_rfl) (fun _ _ _ h => h) (Or.inl ⟨by rfl, ?_⟩) (by assumption) ?_
        case refine_2 => (intro w hSw; (try dsimp only at hSw); go_simp; (try with_reducible rfl))
        clear h_i
        try simp only [Act.put, List.setIfInBounds_toArray, List.set_cons_zero, List.set_cons_succ]
        refine take_at (i := 3) (take_d rfl) ?_
        intro h_i
        refine wpAnyH_take (v := ?_) h_i (by kernel_rfl) (by kernel_rfl) (by kernel_rfl) (fun _ _ _ h => h) (Or.inl ⟨by rfl, ?_⟩) (by assumption) ?_
        case refine_2 => (intro w hSw; (try dsimp only at hSw); go_simp; (try with_reducible rfl))
        clear h_i
        try simp only [Act.put, List.setIfInBounds_toArray, List.set_cons_zero, List.set_cons_succ]
        refine take_at (i := 5) (take_d rfl) ?_
        intro h_i
        refine wpAnyH_take (v := ?_) h_i (by kernel_rfl) (by kernel_rfl) (by kernel_rfl) (fun _ _ _ h => h) (Or.inl ⟨by rfl, ?_⟩) (by assumption) ?_
        case refine_2 => (intro w hSw; (try dsimp only at hSw); go_simp; (try with_reducible rfl))
        clear h_i
        try simp only [Act.put, List.setIfInBounds_toArray, List.set_cons_zero, List.set_cons_succ]
        refine wpAnyH_ready (rs := [4, 6]) (by kernel_rfl) (by simp) ?_
        refine AllReadyH.cons (take_d rfl) (fun zK hK => ?_) (AllReadyH.cons (take_d rfl) (fun zK hK => ?_) AllReadyH.nil)
        · go_simp
          refine hK.out _ _ ?_ (fun hHeld2 => ?_)
          · exact HXA.out _ HX.out
          clear hK zK hHeld
          have hHeld := hHeld2
          clear hHeld2
          try simp only [Act.put, List.setIfInBounds_toArray, List.set_cons_zero, List.set_cons_succ]
          refine wpAnyH_ready (rs := [6]) (by kernel_rfl) (by simp) ?_
          refine AllReadyH.cons (take_d rfl) (fun zK hK => ?_) AllReadyH.nil
          go_simp
          refine hK.out _ _ ?_ (fun hHeld2 => ?_)
          · exact HXA.out _ (blk_below HX.out HBA.out)
          clear hK zK hHeld
          have hHeld := hHeld2
          clear hHeld2
          try simp only [Act.put, List.setIfInBounds_toArray, List.set_cons_zero, List.set_cons_succ]
          refine wpAnyH_ready (rs := [7]) (by kernel_rfl) (by simp) ?_
          refine AllReadyH.cons (take_d rfl) (fun zK hK => ?_) AllReadyH.nil
          rw [if_pos (by rfl)]
          refine wp_plusG B _ _ 37 (.agg #[.string ⟨#[]⟩, .string ⟨#[]⟩]) rfl Tryd.underlying37 info53 rfl (.slice A2 X.fields.length c2) X.fields ⟨p0, p1⟩ _ _ rfl rfl HA.out.f HN.out (Nat.le_trans hB6 HBA.out.size) (by omega) ?_
          intro v1 w8 hr1 hb1 hg1 hat1
          obtain ⟨A3, c3, q1, _, _⟩ := hr1.reads
          rw [show (X.fields ++ [(⟨p0, p1⟩ : Fld)]).length = X.fields.length + 1 from by simp] at q1
          subst q1
          have HPF := Aside0.mk (HA.out.pushF hr1 hb1 hg1 hat1)
          have hi8 := (hg1.block b HA.out.lt (fun e => HA.out.nf e.symm)).trans HA.out.i
          have k98 : w8.cell? ⟨b, 9, none⟩ = some (.slice A2 X.fields.length c2) := (blk_cell hi8 9).trans rfl
          have z98 := blk_frozen hi8 9
          have hgx8 := (hg1.block gx (by have := blk_lt HX.out; have := HBA.out.size; omega) (fun e => HGF.out _ e.symm rfl)).trans (blk_below HX.out HBA.out)
          clear hr1 hb1 hg1 hat1 hi8
          refine hK.out _ _ ?_ (fun hHeld2 => ?_)
          · exact HXA.out _ ((hgx8 : w8.heap[gx]? = _))
          clear hK zK hHeld
          have hHeld := hHeld2
          clear hHeld2
          try simp only [Act.put, List.setIfInBounds_toArray, List.set_cons_zero, List.set_cons_succ]
          refine take_at (i := 8) (take_d rfl) ?_
          intro h_i
          refine wpAnyH_take (v := ?_) h_i (by kernel_rfl) (by kernel_rfl) (by kernel_rfl) (fun _ _ _ h => h) (Or.inl ⟨by rfl, ?_⟩) (by assumption) ?_
          case refine_2 => (intro w hSw; (try dsimp only at hSw); go_simp; (try with_reducible rfl))
          clear h_i
          try simp only [Act.put, List.setIfInBounds_toArray, List.set_cons_zero, List.set_cons_succ]
          refine take_at (i := 9) (take_d rfl) ?_
          intro h_i
          refine wpAnyH_take (v := ?_) h_i (by kernel_rfl) (by kernel_rfl) (by kernel_rfl) (fun _ _ _ h => h) (Or.inl ⟨by rfl, ?_⟩) (by assumption) ?_
          case refine_2 => (intro w hSw; (try dsimp only at hSw); go_simp; (try with_reducible rfl))
          clear h_i
          try simp only [Act.put, List.setIfInBounds_toArray, List.set_cons_zero, List.set_cons_succ]
          refine wpAnyH_ready (rs := [10]) (by kernel_rfl) (by simp) ?_
          refine AllReadyH.cons (take_d rfl) (fun zK hK => ?_) AllReadyH.nil
          go_simp
          refine hK.out _ _ ?_ (fun hHeld2 => ?_)
          · exact HXA.out _ (blk_far hgx8 (by dsimp only; have := HMM.out.lt; have := HGX.out; omega) _)
          clear hK zK hHeld
          have hHeld := hHeld2
          clear hHeld2
          try simp only [Act.put, List.setIfInBounds_toArray, List.set_cons_zero, List.set_cons_succ]
          refine wpAnyH_done (by kernel_rfl) ?_ _
          obtain ⟨w9, hw9⟩ : ∃ w9, w8.setCell ⟨b, 9, none⟩ (.slice A3 (X.fields.length + 1) c3) = w9 := ⟨_, rfl⟩
          rw [hw9] at HPF
          rw [hw9]
          have k89 := HPF.out.1.c8
          have z89 := HPF.out.1.fz 8
          clear hw9 k98 z98
          go_wp2
          go_ret
          refine take_ok (Y := { X with size := X.size + 1, fields := X.fields ++ [⟨p0, p1⟩], text := [], place := 6 }) HPF.out.1.wipe.1 ((HF6.out.trans ((Far.of_below HBA.out hB6).trans HPF.out.2)).trans HPF.out.1.wipe.2) ((step9 HP.out).trans ((if_neg (by decide)).trans ((line_end (show X.size < (envM e0 e1 e2).e2 from hon) HP.out).trans ?_)))
          rw [← HFL.out]
          rfl
        · go_simp
          refine hK.out _ _ ?_ (fun hHeld2 => ?_)
          · exact HXA.out _ (blk_below HX.out HBA.out)
          clear hK zK hHeld
          have hHeld := hHeld2
          clear hHeld2
          try simp only [Act.put, List.setIfInBounds_toArray, List.set_cons_zero, List.set_cons_succ]
          refine wpAnyH_ready (rs := [4]) (by kernel_rfl) (by simp) ?_
          refine AllReadyH.cons (take_d rfl) (fun zK hK => ?_) AllReadyH.nil
          go_simp
          refine hK.out _ _ ?_ (fun hHeld2 => ?_)
          · exact HXA.out _ (blk_below HX.out HBA.out)
          clear hK zK hHeld
          have hHeld := hHeld2
          clear hHeld2
          try simp only [Act.put, List.setIfInBounds_toArray, List.set_cons_zero, List.set_cons_succ]
          refine wpAnyH_ready (rs := [7]) (by kernel_rfl) (by simp) ?_
          refine AllReadyH.cons (take_d rfl) (fun zK hK => ?_) AllReadyH.nil
          rw [if_pos (by rfl)]
          refine wp_plusG B _ _ 37 (.agg #[.string ⟨#[]⟩, .string ⟨#[]⟩]) rfl Tryd.underlying37 info53 rfl (.slice A2 X.fields.length c2) X.fields ⟨p0, p1⟩ _ _ rfl rfl HA.out.f HN.out (Nat.le_trans hB6 HBA.out.size) (by omega) ?_
          intro v1 w8 hr1 hb1 hg1 hat1
          obtain ⟨A3, c3, q1, _, _⟩ := hr1.reads
          rw [show (X.fields ++ [(⟨p0, p1⟩ : Fld)]).length = X.fields.length + 1 from by simp] at q1
          subst q1
          have HPF := Aside0.mk (HA.out.pushF hr1 hb1 hg1 hat1)
          have hi8 := (hg1.block b HA.out.lt (fun e => HA.out.nf e.symm)).trans HA.out.i
          have k98 : w8.cell? ⟨b, 9, none⟩ = some (.slice A2 X.fields.length c2) := (blk_cell hi8 9).trans rfl
          have z98 := blk_frozen hi8 9
          have hgx8 := (hg1.block gx (by have := blk_lt HX.out; have := HBA.out.size; omega) (fun e => HGF.out _ e.symm rfl)).trans (blk_below HX.out HBA.out)
          clear hr1 hb1 hg1 hat1 hi8
          refine hK.out _ _ ?_ (fun hHeld2 => ?_)
          · exact HXA.out _ ((hgx8 : w8.heap[gx]? = _))
          clear hK zK hHeld
          have hHeld := hHeld2
          clear hHeld2
          try simp only [Act.put, List.setIfInBounds_toArray, List.set_cons_zero, List.set_cons_succ]
          refine take_at (i := 8) (take_d rfl) ?_
          intro h_i
          refine wpAnyH_take (v := ?_) h_i (by kernel_rfl) (by kernel_rfl) (by kernel_rfl) (fun _ _ _ h => h) (Or.inl ⟨by rfl, ?_⟩) (by assumption) ?_
          case refine_2 => (intro w hSw; (try dsimp only at hSw); go_simp; (try with_reducible rfl))
          clear h_i
          try simp only [Act.put, List.setIfInBounds_toArray, List.set_cons_zero, List.set_cons_succ]
          refine take_at (i := 9) (take_d rfl) ?_
          intro h_i
          refine wpAnyH_take (v := ?_) h_i (by kernel_rfl) (by kernel_rfl) (by kernel_rfl) (fun _ _ _ h => h) (Or.inl ⟨by rfl, ?_⟩) (by assumption) ?_
          case refine_2 => (intro w hSw; (try dsimp only at hSw); go_simp; (try with_reducible rfl))
          clear h_i
          try simp only [Act.put, List.setIfInBounds_toArray, List.set_cons_zero, List.set_cons_succ]
          refine wpAnyH_ready (rs := [10]) (by kernel_rfl) (by simp) ?_
          refine AllReadyH.cons (take_d rfl) (fun zK hK => ?_) AllReadyH.nil
          go_simp
          refine hK.out _ _ ?_ (fun hHeld2 => ?_)
          · exact HXA.out _ (blk_far hgx8 (by dsimp only; have := HMM.out.lt; have := HGX.out; omega) _)
          clear hK zK hHeld
          have hHeld := hHeld2
          clear hHeld2
          try simp only [Act.put, List.setIfInBounds_toArray, List.set_cons_zero, List.set_cons_succ]
          refine wpAnyH_done (by kernel_rfl) ?_ _
          obtain ⟨w9, hw9⟩ : ∃ w9, w8.setCell ⟨b, 9, none⟩ (.slice A3 (X.fields.length + 1) c3) = w9 := ⟨_, rfl⟩
          rw [hw9] at HPF
          rw [hw9]
          have k89 := HPF.out.1.c8
          have z89 := HPF.out.1.fz 8
          clear hw9 k98 z98
          go_wp2
          go_ret
          refine take_ok (Y := { X with size := X.size + 1, fields := X.fields ++ [⟨p0, p1⟩], text := [], place := 6 }) HPF.out.1.wipe.1 ((HF6.out.trans ((Far.of_below HBA.out hB6).trans HPF.out.2)).trans HPF.out.1.wipe.2) ((step9 HP.out).trans ((if_neg (by decide)).trans ((line_end (show X.size < (envM e0 e1 e2).e2 from hon) HP.out).trans ?_)))
          rw [← HFL.out]
          rfl
  · have hc' : (c != 10) = true := by rw [bne_iff_ne]; exact hs
    go_enter Tryd.func62, Tryd.ntmps62
    go_wp2
    go_ret
    exact take_bad 2 H.out (Far.refl _ _ _ _ _) ((step9 HP.out).trans (if_pos hs)) (by decide)
end Go.Proofs.YtmmbpbgcobmifaaDoorH
end
section
namespace Go.Proofs.YtmmbpbgcobmifaaDoor.Pr
end Go.Proofs.YtmmbpbgcobmifaaDoor.Pr
namespace Go.Proofs.YtmmbpbgcobmifaaDoorH
set_option linter.unusedVariables false
set_option linter.unusedSimpArgs false
open Go Go.RowKit Go.Proofs.YtmmbpbgcobmifaaDoorW.PrintWords Go.Proofs.YtmmbpbgcobmifaaDoorW.PrintLast Go.Proofs.YtmmbpbgcobmifaaDoorW.PrintMore Go.Proofs.YtmmbpbgcobmifaaDoor.Pr Go.Proofs.YtmmbpbgcobmifaaDoorM
abbrev waysC : Array Value := #[.func (.func 53) #[] #[], .func (.func 54) #[] #[], .func (.func 55) #[] #[], .func (.func 56) #[] #[], .func (.func 57) #[] #[], .func (.func 58) #[] #[], .func (.func 59) #[] #[], .func (.func 60) #[] #[], .func (.func 61) #[] #[], .func (.func 62) #[] #[], .func (.func 63) #[] #[], .func (.func 63) #[] #[]]
def Way (p : Nat) (F : FuncId) : Prop := ∀ W : World, (Instr.index 94 (.agg waysC) (.int .i64 (p : Int))).run Tryd.prog W = .ok (.agg #[.func (.func F) #[] #[]]) W
theorem way0 : Way 0 53 := fun _ => by kernel_rfl
theorem way1 : Way 1 54 := fun _ => by kernel_rfl
theorem way2 : Way 2 55 := fun _ => by kernel_rfl
theorem way4 : Way 4 57 := fun _ => by kernel_rfl
theorem way5 : Way 5 58 := fun _ => by kernel_rfl
theorem way6 : Way 6 59 := fun _ => by kernel_rfl
theorem way7 : Way 7 60 := fun _ => by kernel_rfl
theorem way8 : Way 8 61 := fun _ => by kernel_rfl
theorem way9 : Way 9 62 := fun _ => by kernel_rfl
theorem way10 : Way 10 63 := fun _ => by kernel_rfl
set_option maxHeartbeats 4000000 in
set_option maxRecDepth 100000 in
theorem way_calls (b p : Nat) (F : FuncId) (hF : Way p F) (w : World) (h : w.cell? ⟨b, 3, none⟩ = some (.int .i64 (p : Int))) :
    Calls Tryd.prog 39 #[.pointer (some ⟨b, 0, none⟩)] w fun e w' => e = .returned (.agg #[.func (.func F) #[] #[]]) ∧ Below w.heap.size w w' := by
  have hlt : b < w.heap.size := World.block_lt_of_cell? _ _ h
  have hF' : ∀ W : World, (Instr.index 94 (.agg waysC) (.int .i64 (p : Int))).run Tryd.prog W = .ok (.agg #[.func (.func F) #[] #[]]) W := hF
  unfold waysC at hF'
  go_enter Tryd.func39, Tryd.ntmps39
  go_wp2
  refine bodyPost_ret (results_cell_row rfl _ _ w.heap.size 76 #[.func (.func F) #[] #[]] (0, 0) _ rfl (heap_alloc_new w _) Tryd.underlying76 rfl (by kernel_rfl)) rfl ⟨rfl, below_alloc (Below.refl _ _) _⟩
end Go.Proofs.YtmmbpbgcobmifaaDoorH
end
section
namespace Go.Proofs.YtmmbpbgcobmifaaDoor.Pr
end Go.Proofs.YtmmbpbgcobmifaaDoor.Pr
namespace Go.Proofs.YtmmbpbgcobmifaaDoorH
set_option linter.unusedVariables false
set_option linter.unusedSimpArgs false
open Go Go.RowKit Go.Proofs.YtmmbpbgcobmifaaDoorW.PrintWords Go.Proofs.YtmmbpbgcobmifaaDoorW.PrintLast Go.Proofs.YtmmbpbgcobmifaaDoorW.PrintMore Go.Proofs.YtmmbpbgcobmifaaDoor.Pr Go.Proofs.YtmmbpbgcobmifaaDoorM
theorem take_any (B b e0 e1 e2 : Nat) (X : MSt Fld) (i tk gv : Nat) (c : Int) (hI : InvN X i) (hi : i ≤ 1000000) (h3 : X.place ≠ 3) (h11 : X.place ≠ 11) (hb : 0 ≤ c ∧ c ≤ 255) :
    ∃ F, Way X.place F ∧ Enters Tryd.prog F ∧ ∀ (w : World) (lv fv : Value), AtD w B b e0 e1 e2 X X.count lv fv tk gv 0 → Keeps B w TabOk → B ≤ w.heap.size → Calls Tryd.prog F #[.pointer (some ⟨b, 0, none⟩), .int .u8 c] w (TakeD w B b e0 e1 e2 X lv fv tk gv c) := by
  obtain ⟨q1, q2, q3, q4, q5, q6, q7, q8, q9, q10⟩ := hI
  have hp : X.place = 0 ∨ X.place = 1 ∨ X.place = 2 ∨ X.place = 4 ∨ X.place = 5 ∨ X.place = 6 ∨ X.place = 7 ∨ X.place = 8 ∨ X.place = 9 ∨ X.place = 10 := by omega
  rcases hp with hp | hp | hp | hp | hp | hp | hp | hp | hp | hp
  · exact ⟨_, by rw [hp]; exact way0, enters_of Tryd.func53 (by kernel_rfl) rfl, fun w lv fv h hG hB => digit_does B b e0 e1 e2 X lv fv tk gv c w h hG hB hb (by omega) q2 hp⟩
  · exact ⟨_, by rw [hp]; exact way1, enters_of Tryd.func54 (by kernel_rfl) rfl, fun w lv fv h hG hB => extended_does B b e0 e1 e2 X lv fv tk gv c w h hG hB (by omega) hp⟩
  · exact ⟨_, by rw [hp]; exact way2, enters_of Tryd.func55 (by kernel_rfl) rfl, fun w lv fv h hG hB => begun_does B b e0 e1 e2 X lv fv tk gv c w h hp⟩
  · exact ⟨_, by rw [hp]; exact way4, enters_of Tryd.func57 (by kernel_rfl) rfl, fun w lv fv h hG hB => closed_does B b e0 e1 e2 X lv fv tk gv c w h hp⟩
  · exact ⟨_, by rw [hp]; exact way5, enters_of Tryd.func58 (by kernel_rfl) rfl, fun w lv fv h hG hB => again_does B b e0 e1 e2 X lv fv tk gv c w h hp⟩
  · exact ⟨_, by rw [hp]; exact way6, enters_of Tryd.func59 (by kernel_rfl) rfl, fun w lv fv h hG hB => first_does B b e0 e1 e2 X lv fv tk gv c w h hG hB hb (by omega) (by omega) (by omega) hp⟩
  · exact ⟨_, by rw [hp]; exact way7, enters_of Tryd.func60 (by kernel_rfl) rfl, fun w lv fv h hG hB => named_does B b e0 e1 e2 X lv fv tk gv c w h hG hB hb (by omega) (by omega) hp⟩
  · exact ⟨_, by rw [hp]; exact way8, enters_of Tryd.func61 (by kernel_rfl) rfl, fun w lv fv h hG hB => valued_does B b e0 e1 e2 X lv fv tk gv c w h hG hB hb (by omega) (by omega) hp⟩
  · exact ⟨_, by rw [hp]; exact way9, enters_of Tryd.func62 (by kernel_rfl) rfl, fun w lv fv h hG hB => line1_does B b e0 e1 e2 X lv fv tk gv c w h hG hB (by omega) (by omega) (by omega) (q10 (.inr (.inr hp))) hp⟩
  · exact ⟨_, by rw [hp]; exact way10, enters_of Tryd.func63 (by kernel_rfl) rfl, fun w lv fv h hG hB => finish_does B b e0 e1 e2 X lv fv tk gv c w h hp⟩
theorem mline_err {E : MEnv Fld} {s : MSt Fld} {c er : Int} (h : mline E s c = .error er) : er = 5 := by
  unfold mline at h
  split at h
  · cases h; rfl
  · split at h <;> cases h
theorem mstep_err {E : MEnv Fld} {s : MSt Fld} {c er : Int} (h : mstep E s c = .error er) : er = 2 ∨ er = 3 ∨ er = 5 := by
  unfold mstep at h
  repeat' split at h
  all_goals first
    | (cases h; simp; done)
    | exact .inr (.inr (mline_err h))
    | cases h
theorem C_moves {α : Type} {d : Kd α} {w W : World} {S S' : Nat → Prop} (hm : Moves w W S S') {A : Option Addr} {n : Nat} {xs : List α} (h : Kd.C d w A n xs) (hK : ∀ q cs, d.K w q cs → d.K W q cs) (hA : 0 < n → ∀ ad, A = some ad → ¬ S ad.block) : Kd.C d W A n xs := by
  obtain ⟨h1, h2, h3⟩ := h
  refine ⟨h1, h2, fun hp => ?_⟩
  obtain ⟨ad, e, hc⟩ := h3 hp
  refine ⟨ad, e, fun i q hi => ?_⟩
  obtain ⟨cs', a, b, hcell⟩ := hc i q hi
  refine ⟨cs', a, hK _ _ b, fun m u hu => ?_⟩
  have hu2 := hcell m u hu
  have hbk : ∀ z, (ad.add z).block = ad.block := fun z => by unfold Addr.add; split <;> rfl
  have hlt := World.block_lt_of_cell? _ _ hu2
  rw [cell_far]
  · exact hu2
  · rw [hbk] at hlt ⊢
    obtain ⟨ob, hob⟩ : ∃ ob, w.heap[ad.block]? = some ob := ⟨_, Array.getElem?_eq_getElem hlt⟩
    rw [hob]
    exact hm.bl _ _ hob (hA hp _ e)
theorem C8_moves {w W : World} {S S' : Nat → Prop} (hm : Moves w W S S') {A : Option Addr} {n : Nat} {xs : List Int} (h : Kd.C (Kd.int .u8) w A n xs) (hA : 0 < n → ∀ ad, A = some ad → ¬ S ad.block) : Kd.C (Kd.int .u8) W A n xs := C_moves hm h (fun _ _ h => h) hA
theorem CF_moves {w W : World} {S S' : Nat → Prop} (hm : Moves w W S S') {A : Option Addr} {n : Nat} {xs : List Fld} (h : Kd.C k53 w A n xs) (hA : 0 < n → ∀ ad, A = some ad → ¬ S ad.block) : Kd.C k53 W A n xs := C_moves hm h (fun _ _ h => h) hA
theorem Moves.grow {w W W1 : World} {S S' : Nat → Prop} {row : Option Nat} (h : Moves w W S S') (hg : W.grownBy W1 row) (hr : ∀ k, row = some k → w.heap.size ≤ k) : Moves w W1 S S' :=
  ⟨Nat.le_trans h.sz hg.size, fun k ob hk hn => by
    have h1 := h.bl k ob hk hn
    rw [hg.block k (blk_lt h1) (fun e => by have := hr k e.symm; have := blk_lt hk; omega)]
    exact h1, h.own⟩
theorem AtD.grow {W W1 : World} {B b e0 e1 e2 : Nat} {X : MSt Fld} {co : Nat} {lv fv : Value} {tk gv : Nat} {er : Int} {row : Option Nat} (h : AtD W B b e0 e1 e2 X co lv fv tk gv er) (hg : W.grownBy W1 row) (hr : ∀ k, row = some k → ¬ Own3 b lv fv k) : AtD W1 B b e0 e1 e2 X co lv fv tk gv er :=
  ⟨(hg.block b h.lt (fun e => hr b e.symm (.inl rfl))).trans h.i, h.l.move fun k hk => by
    obtain ⟨_, cs, hc⟩ := h.l.at k hk
    exact hg.block k (blk_lt hc) (fun e => hr k e.symm (.inr (.inl hk))), h.f.move fun k hk => by
    obtain ⟨_, cs, hc⟩ := h.f.at k hk
    exact hg.block k (blk_lt hc) (fun e => hr k e.symm (.inr (.inr hk))), h.hb⟩
theorem RowD.moves {w W : World} {base : Nat} {v : Value} {l : List Int} {S S' : Nat → Prop} (h : RowD w base v l) (hm : Moves w W S S') (hn : ∀ k, v.ownBlock = some k → ¬ S k) : RowD W base v l ∧ ∀ k, v.ownBlock = some k → ¬ S' k :=
  ⟨h.move fun k hk => by
    obtain ⟨_, cs, hc⟩ := h.at k hk
    rw [hc]
    exact hm.bl _ _ hc (hn k hk), fun k hk hs => (hm.own k hs).elim (hn k hk) (fun hle => by
    obtain ⟨_, cs, hc⟩ := h.at k hk
    have := blk_lt hc
    omega)⟩
theorem run_chunk {E : MEnv Fld} (r : List Int) (i : Nat) (X : MSt Fld) (hp : X.place = 3) (hn : 0 < X.n) (k : Nat) (hk : k = min X.n r.length) :
    mrun E X r i = mrun E { X with place := (if X.n - k = 0 then 4 else 3), n := X.n - k, data := X.data ++ r.take k } (r.drop k) (i + k) := by
  obtain ⟨m, hm⟩ : ∃ m, X.n = m + 1 := ⟨X.n - 1, by omega⟩
  rw [run_data m r i X hp hm]
  by_cases hle : m + 1 ≤ r.length
  · have hk' : k = m + 1 := by omega
    rw [if_pos hle, hk', if_pos (by omega), hm, Nat.sub_self]
  · have hk' : k = r.length := by omega
    rw [if_neg hle, hk', if_neg (by omega), List.take_length, List.drop_length, ← hp]
    rfl
end Go.Proofs.YtmmbpbgcobmifaaDoorH
end
section
namespace Go.Proofs.YtmmbpbgcobmifaaDoor.Pr
end Go.Proofs.YtmmbpbgcobmifaaDoor.Pr
namespace Go.Proofs.YtmmbpbgcobmifaaDoorH
set_option linter.unusedVariables false
set_option linter.unusedSimpArgs false
open Go Go.RowKit Go.Proofs.YtmmbpbgcobmifaaDoorW.PrintWords Go.Proofs.YtmmbpbgcobmifaaDoorW.PrintLast Go.Proofs.YtmmbpbgcobmifaaDoorW.PrintMore Go.Proofs.YtmmbpbgcobmifaaDoor.Pr Go.Proofs.YtmmbpbgcobmifaaDoorM
theorem cell_moves {w W : World} {S S' : Nat → Prop} (hm : Moves w W S S') {a : Addr} {v : Value} (h : w.cell? a = some v) (hn : ¬ S a.block) : W.cell? a = some v := by
  have hlt := World.block_lt_of_cell? _ _ h
  rw [cell_far]
  · exact h
  · rw [Array.getElem?_eq_getElem hlt]
    exact hm.bl _ _ (Array.getElem?_eq_getElem hlt) hn
theorem list_plusD {P : Program} {ops : Array Oper} {rest : List Oper} {o : Oper} {a : Act} {Q : Exit → Act → World → Prop} {W : World} (base : Nat) (hgd : o.guard = none) (s x : Operand) (t : TypeId) (z : Value)
    (ho : o.op = .call { callee := .builtin .append, args := #[s, x], argTypes := #[t, t] })
    (ht : P.underlying t = some (.slice 5)) (hinfo : (P.info? 5).map (fun i => (i.zero, i.size, i.bytes)) = some (some z, 1, 1)) (hz : z.cells.size = 1)
    (v : Value) (pre l : List Int) (A : Option Addr) (c : Nat) (hs : a.eval s = v) (hx : a.eval x = .slice A l.length c) (HO : RowD W base v pre) (HC : Kd.C (Kd.int .u8) W A l.length l) (hbase : base ≤ W.heap.size)
    (hl : pre.length + l.length ≤ 140737488355328)
    (h : ∀ v1 w1, RowD w1 base v1 (pre ++ l) → Below base W w1 → W.grownBy w1 v.ownBlock → (∀ k, v1.ownBlock = some k → v.ownBlock = some k ∨ W.heap.size ≤ k) → wpList P ops Q rest (a.put o.dst v1) w1) : wpList P ops Q (o :: rest) a W := by
  unfold wpList
  rw [if_pos (by simp [Region.wanted, hgd])]
  left
  obtain ⟨i0, hi, hzz⟩ := Option.map_eq_some_iff.1 hinfo
  simp only [Prod.mk.injEq] at hzz
  obtain ⟨hz0, hz1, hz2⟩ := hzz
  have hrow : ∀ k, v.ownBlock = some k → base ≤ k := own_base HO
  unfold Oper.wp
  simp only [execOp, ho, resolve, invoke, builtin, Sem.run_bind, Sem.run_pure, Result.andThen_ok, List.map_toArray, List.map_cons, List.map_nil, hs, hx]
  cases A with
  | some ad =>
    obtain ⟨v1, w1, hr, hown, hg, _, hat⟩ := run_append_own_at (P := P) W base t o.type 5 i0 z 1 1 ht hi hz0 hz1 hz2 hz (by decide) v pre.length _ HO ad l.length c (l.map (Value.int .u8)) (by rw [List.length_map]; omega)
      (fun j u hu => by
        rw [List.getElem?_map] at hu
        obtain ⟨y, hy, rfl⟩ := Option.map_eq_some_iff.1 hu
        obtain ⟨ad', e, hc⟩ := HC.2.2 (by have := (List.getElem?_eq_some_iff.1 hy).1; omega)
        cases e
        obtain ⟨cs, _, hK, hcs⟩ := hc j y hy
        have hK : cs = [.int .u8 y] := hK
        have := hcs 0 (.int .u8 y) (by rw [hK]; rfl)
        rwa [show j * (Kd.int .u8).sz + 0 = j by show j * 1 + 0 = j; omega] at this)
      (fun u hu => by
        obtain ⟨p, _, rfl⟩ := List.mem_map.1 hu
        rfl) (by simp only [maxLen]; omega) (by omega) hbase
    rw [hr]
    refine h v1 w1 ?_ ((Below.refl _ _).grown hg hbase hrow) hg (fun k hk => ?_)
    · unfold RowD
      rw [List.length_append, List.map_append]
      exact hown
    · rcases hat with e | e
      · exact .inl (e ▸ hk)
      · rw [hk] at e
        cases e
        exact .inr (Nat.le_refl _)
  | none =>
    have hn : l = [] := by
      rcases l with _ | ⟨y, l⟩
      · rfl
      · obtain ⟨_, e, _⟩ := HC.2.2 (Nat.succ_pos _)
        cases e
    subst hn
    have hv : (Builtin.append_ #[t, t] o.type #[v, .slice none 0 c]).run P W = .ok v W := by
      rcases HO.2 with ⟨rfl, hp⟩ | ⟨g, cap, cur, rfl, _, hg, hnc, _⟩
      · simp [Builtin.append_, run_underlying ht, sizeOf, typeInfo, hi, Builtin.lenOf, Builtin.firstCells]
      · simp [Builtin.append_, run_underlying ht, sizeOf, typeInfo, hi, Builtin.lenOf, Builtin.firstCells, hnc, storeCells]
    rw [show ([] : List Int).length = 0 from rfl, hv]
    exact h v W (by rw [List.append_nil]; exact HO) (Below.refl _ _) ⟨rfl, rfl, rfl, Nat.le_refl _, fun _ _ _ => rfl⟩ (fun k hk => .inl hk)
theorem AtD.own_lt {W : World} {B b e0 e1 e2 : Nat} {X : MSt Fld} {co : Nat} {lv fv : Value} {tk gv : Nat} {er : Int} (h : AtD W B b e0 e1 e2 X co lv fv tk gv er) {k : Nat} (hk : Own3 b lv fv k) : k < W.heap.size := by
  rcases hk with rfl | hk | hk
  · exact h.lt
  · obtain ⟨_, cs, hc⟩ := h.l.at k hk
    exact blk_lt hc
  · obtain ⟨_, cs, hc⟩ := h.f.at k hk
    exact blk_lt hc
theorem mline_data {E : MEnv Fld} {s x : MSt Fld} {c : Int} (h : mline E s c = .ok x) : x.data = s.data := by
  unfold mline at h
  split at h
  · cases h
  · split at h <;> (cases h; rfl)
theorem step_data {E : MEnv Fld} {s x : MSt Fld} {c : Int} (h : mstep E s c = .ok x) (h3 : s.place ≠ 3) : x.data = s.data := by
  unfold mstep at h
  repeat' split at h
  all_goals first
    | (cases h; rfl)
    | (exact mline_data h)
    | (have := mline_data h; exact this)
    | (exfalso; rename_i hq _; exact h3 hq)
    | (exfalso; rename_i hq; exact h3 hq)
    | cases h
def errD (r : Int) : Int := if r = 4 then 0 else r
def PutD (w : World) (B b e0 e1 e2 : Nat) (X : MSt Fld) (lv fv : Value) (tk gv : Nat) (s : List Int) (e : Ending) (w' : World) : Prop :=
  ∃ (Y : MSt Fld) (at_ : Nat) (er : Int) (out : List Int) (ov lv' fv' : Value) (co : Nat), mrun (envM e0 e1 e2) X s 0 = (Y, at_, er) ∧ e = .returned (.tuple #[ov, .int .i64 (at_ : Int), .int .i64 (errD er)]) ∧ RowD w' w.heap.size ov out ∧ Y.data = X.data ++ out ∧ AtD w' B b e0 e1 e2 Y co lv' fv' (tk + at_) (gv + out.length) (errD er) ∧ (er = 4 → co = Y.count) ∧ Far w w' B b lv fv lv' fv' ∧ at_ ≤ s.length ∧ out.length ≤ at_ ∧ ∀ k, ov.ownBlock = some k → ¬ Own3 b lv' fv' k
structure RoundD (w W : World) (B b e0 e1 e2 : Nat) (X : MSt Fld) (lv fv : Value) (tk gv i : Nat) (s : List Int) (k : Nat) (Y : MSt Fld) (out : List Int) (ov lv' fv' : Value) (co : Nat) (er : Int) : Prop where
  at_ : AtD W B b e0 e1 e2 Y co lv' fv' tk gv er
  far : Far w W B b lv fv lv' fv'
  row : RowD W w.heap.size ov out
  dis : ∀ k, ov.ownBlock = some k → ¬ Own3 b lv' fv' k
  dat : Y.data = X.data ++ out
  ol : out.length ≤ k
  run : er = 0 ∧ Y.place ≠ 11 ∧ co = Y.count ∧ InvN Y (i + k) ∧ mrun (envM e0 e1 e2) X s 0 = mrun (envM e0 e1 e2) Y (s.drop k) k ∨ er = 0 ∧ Y.place = 11 ∧ mrun (envM e0 e1 e2) X s 0 = (Y, k, 0) ∨ er ≠ 0 ∧ er ≠ 4 ∧ mrun (envM e0 e1 e2) X s 0 = (Y, k, er)
theorem AtD.s10 {W : World} {B b e0 e1 e2 : Nat} {X : MSt Fld} {co : Nat} {lv fv : Value} {tk gv : Nat} {er : Int} (h : AtD W B b e0 e1 e2 X co lv fv tk gv er) (p : Nat) : AtD (W.setCell ⟨b, 10, none⟩ (.int .i64 (p : Int))) B b e0 e1 e2 X co lv fv p gv er :=
  h.turn (Only.set _ _ _) (by simpa using blk_set h.i 10 (.int .i64 (p : Int))) rfl rfl
theorem AtD.s11 {W : World} {B b e0 e1 e2 : Nat} {X : MSt Fld} {co : Nat} {lv fv : Value} {tk gv : Nat} {er : Int} (h : AtD W B b e0 e1 e2 X co lv fv tk gv er) (p : Nat) : AtD (W.setCell ⟨b, 11, none⟩ (.int .i64 (p : Int))) B b e0 e1 e2 X co lv fv tk p er :=
  h.turn (Only.set _ _ _) (by simpa using blk_set h.i 11 (.int .i64 (p : Int))) rfl rfl
theorem RoundD.ends {w W W' : World} {B b e0 e1 e2 : Nat} {X : MSt Fld} {lv fv : Value} {tk gv i : Nat} {s : List Int} {k : Nat} {Y : MSt Fld} {out : List Int} {ov lv' fv' : Value} {co : Nat} {er : Int} (h : RoundD w W B b e0 e1 e2 X lv fv tk gv i s k Y out ov lv' fv' co er) (hk : k ≤ s.length) (hend : k = s.length ∨ er ≠ 0 ∨ Y.place = 11) (ho : Only b W W') (ha : AtD W' B b e0 e1 e2 Y co lv' fv' (tk + k) (gv + out.length) er) :
    PutD w B b e0 e1 e2 X lv fv tk gv s (.returned (.tuple #[ov, .int .i64 (k : Int), .int .i64 er])) W' := by
  have hrow := h.row.only ho (fun e => h.dis b e (.inl rfl))
  have hfar := h.far.trans (Far.only ho h.at_.hb)
  rcases h.run with ⟨rfl, hp, hco, hI, hrun⟩ | ⟨rfl, hp, hrun⟩ | ⟨he, he4, hrun⟩
  · have hkl : k = s.length := by
      rcases hend with h | h | h
      · exact h
      · exact absurd rfl h
      · exact absurd h hp
    refine ⟨Y, k, 4, out, ov, lv', fv', co, ?_, rfl, hrow, h.dat, ha, fun _ => hco, hfar, hk, h.ol, h.dis⟩
    rw [hrun, hkl, List.drop_length]
    rfl
  · exact ⟨Y, k, 0, out, ov, lv', fv', co, hrun, rfl, hrow, h.dat, ha, fun h => absurd h (by decide), hfar, hk, h.ol, h.dis⟩
  · have hd : errD er = er := if_neg he4
    exact ⟨Y, k, er, out, ov, lv', fv', co, hrun, by rw [hd], hrow, h.dat, by rw [hd]; exact ha, fun h => absurd h he4, hfar, hk, h.ol, h.dis⟩
attribute [local go_sem] min2_int min_two in
set_option maxHeartbeats 8000000 in
set_option maxRecDepth 100000 in
theorem put_does (B b e0 e1 e2 : Nat) (X : MSt Fld) (lv fv : Value) (tk gv i : Nat) (A : Option Addr) (c : Nat) (s : List Int) (w : World) (h : AtD w B b e0 e1 e2 X X.count lv fv tk gv 0) (hG : Keeps B w TabOk) (hB : B ≤ w.heap.size) (hI : InvN X i) (hi : i + s.length ≤ 1000000) (h11 : X.place ≠ 11) (htk : tk ≤ 1000000) (hgv : gv ≤ 1000000) (hs : ByteL s) (hr : Kd.C (Kd.int .u8) w A s.length s) (hc : s.length ≤ c) (hA : 0 < s.length → ∀ ad, A = some ad → ¬ Own3 b lv fv ad.block) :
    Calls Tryd.prog 16 #[.pointer (some ⟨b, 0, none⟩), .slice A s.length c] w (PutD w B b e0 e1 e2 X lv fv tk gv s) := by
  have H0 := Aside0.mk (show RoundD w w B b e0 e1 e2 X lv fv tk gv i s 0 X [] (.slice none 0 0) lv fv X.count 0 from ⟨h, Far.refl _ _ _ _ _, RowD.zero _ _, fun k hk => by simp [Value.ownBlock] at hk, by rw [List.append_nil], Nat.le_refl _, .inl ⟨rfl, h11, rfl, hI, rfl⟩⟩)
  have HG := Aside0.mk hG
  have HS := Aside0.mk hs
  have HR := Aside0.mk hr
  have HA := Aside0.mk hA
  have hl63 : s.length ≤ 1000000 := by omega
  clear h hG hI hs hr hA h11
  go_enter Tryd.func16, Tryd.ntmps16
  go_wp2_with fail
  refine wp_scope_straight ?_
  go_wp2_with fail
  refine wp_label ?_
  go_wp2_with fail
  go_loopw [4, 5] (fun u4 u5 wr => ∃ (k : Nat) (Y : MSt Fld) (out : List Int) (ov lv' fv' : Value) (co : Nat) (er : Int), u4 = ov ∧ u5 = .int .i64 (k : Int) ∧ k ≤ s.length ∧ Aside0 (RoundD w wr B b e0 e1 e2 X lv fv tk gv i s k Y out ov lv' fv' co er)) (fun u4 u5 wr => 2 * (s.length - (intOf u5).toNat) + (if intOf ((wr.cell? ⟨b, 12, none⟩).getD (.int .i64 0)) = 0 then 1 else 0))
  case atStart => exact ⟨0, X, [], _, lv, fv, X.count, 0, rfl, rfl, Nat.zero_le _, H0⟩
  case round =>
    obtain ⟨k, Y, out, ov, lv', fv', co, er, rfl, rfl, hk, HQ⟩ := hrel
    obtain ⟨Ao, cO, rfl, _, _⟩ := HQ.out.row.reads
    have HOL := Aside0.mk (Nat.le_trans HQ.out.ol (Nat.le_trans hk hl63))
    have k3 := HQ.out.at_.c3
    have hge' : (0 : Int) ≤ (k : Int) := by omega
    by_cases hlt : k < s.length
    · have hlt' : (k : Int) < (s.length : Int) := by omega
      by_cases he : er = 0
      · subst he
        by_cases hp : Y.place = 11
        · have hpe : ((Y.place : Int) != 11) = false := by rw [bne_eq_false_iff_eq]; omega
          have k10 := HQ.out.at_.c10
          have k11 := HQ.out.at_.c11
          have z10 := HQ.out.at_.fz 10
          have z11 := HQ.out.at_.fz 11
          have k12 := HQ.out.at_.c12
          obtain ⟨tk1, htk1⟩ : ∃ q, tk + k = q := ⟨_, rfl⟩
          obtain ⟨gv1, hgv1⟩ : ∃ q, gv + out.length = q := ⟨_, rfl⟩
          have hwt : IntKind.i64.wrap ((tk : Int) + (k : Int)) = (tk1 : Int) := by
            unfold IntKind.wrap
            simp [IntKind.bits, IntKind.signed]
            omega
          have hwg : IntKind.i64.wrap ((gv : Int) + (out.length : Int)) = (gv1 : Int) := by
            have := HOL.out
            unfold IntKind.wrap
            simp [IntKind.bits, IntKind.signed]
            omega
          have HT1 := Aside0.mk htk1
          have HG1 := Aside0.mk hgv1
          obtain ⟨W4, hW4⟩ : ∃ W4, ((wr.setCell ⟨b, 10, none⟩ (.int .i64 (tk1 : Int))).setCell ⟨b, 11, none⟩ (.int .i64 (gv1 : Int))) = W4 := ⟨_, rfl⟩
          have HW4 := Aside0.mk (show AtD W4 B b e0 e1 e2 Y co lv' fv' tk1 gv1 0 by rw [← hW4]; exact (HQ.out.at_.s10 tk1).s11 gv1)
          have HO4 := Aside0.mk (show Only b wr W4 by rw [← hW4]; exact (Only.set _ _ _).trans (Only.set _ _ _))
          have HE4 := Aside0.mk hW4
          clear htk1 hgv1 hW4
          go_upto_region 14 with (fail)
          rw [HE4.out]
          have k12' := HW4.out.c12
          clear k10 k11 z10 z11 k12 HE4
          go_region_held3 (fun W => W.cell? ⟨b, 12, none⟩ = some (.int .i64 0)) (exact k12') (fail)
          have HEN := Aside0.mk (HQ.out.ends hk (.inr (.inr hp)) (HO4.out.trans (Only.of_below (below_drew (Below.refl _ _)) (Nat.le_of_lt HW4.out.lt))) (by rw [HT1.out, HG1.out]; exact HW4.out.below (below_drew (Below.refl _ _))))
          go_wp2
          refine bodyPost_ret (results_tmp3 rfl _ _ _) rfl ?_
          go_simp
          exact HEN.out
        · have hpe : ((Y.place : Int) != 11) = true := by rw [bne_iff_ne]; omega
          by_cases h3 : Y.place = 3
          · obtain ⟨pl, n, cnt, li, sz, tx, D, F⟩ := Y
            dsimp only at h3 hp k3 hpe
            subst h3
            obtain ⟨hco, hIN, hrun⟩ : co = cnt ∧ InvN (⟨3, n, cnt, li, sz, tx, D, F⟩ : MSt Fld) (i + k) ∧ mrun (envM e0 e1 e2) X s 0 = mrun (envM e0 e1 e2) ⟨3, n, cnt, li, sz, tx, D, F⟩ (s.drop k) k := by
              rcases HQ.out.run with ⟨_, _, h1, h2, h3⟩ | ⟨_, h, _⟩ | ⟨h, _⟩
              · exact ⟨h1, h2, h3⟩
              · exact absurd h (by show ¬ 3 = 11; decide)
              · exact absurd rfl h
            have hn0 : 0 < n := hIN.n3 rfl
            have hnb : n ≤ 4611686018427387903 := hIN.n
            have hdl : (s.drop k).length = s.length - k := List.length_drop
            obtain ⟨kk, hkk⟩ : ∃ kk, kk = min n (s.drop k).length := ⟨_, rfl⟩
            have hch := run_chunk (E := envM e0 e1 e2) (s.drop k) k ⟨3, n, cnt, li, sz, tx, D, F⟩ rfl hn0 kk hkk
            dsimp only at hch
            rw [List.drop_drop] at hch
            rw [hdl] at hkk
            have hkk1 : 1 ≤ kk := by omega
            have hkkn : kk ≤ n := by omega
            have hkks : k + kk ≤ s.length := by omega
            obtain ⟨nn, hnn⟩ : ∃ nn, n - kk = nn := ⟨_, rfl⟩
            obtain ⟨m, hm⟩ : ∃ m, k + kk = m := ⟨_, rfl⟩
            obtain ⟨q, hq⟩ : ∃ q, s.length - k = q := ⟨_, rfl⟩
            rw [hnn, hm] at hch
            have HRUN := Aside0.mk (hrun.trans hch)
            have hw1 : IntKind.i64.wrap ((s.length : Int) - (k : Int)) = (q : Int) := by
              unfold IntKind.wrap
              simp [IntKind.bits, IntKind.signed]
              omega
            have hw2 : IntKind.u64.wrap (q : Int) = (q : Int) := by rw [IntKind.wrap_u64]; omega
            have hmn : (if (q : Int) < (n : Int) then (q : Int) else (n : Int)) = (kk : Int) := by split <;> omega
            have hw3 : IntKind.i64.wrap (kk : Int) = (kk : Int) := by
              unfold IntKind.wrap
              simp [IntKind.bits, IntKind.signed]
              omega
            have hw4 : IntKind.i64.wrap ((k : Int) + (kk : Int)) = (m : Int) := by
              unfold IntKind.wrap
              simp [IntKind.bits, IntKind.signed]
              omega
            have hw5 : IntKind.u64.wrap (kk : Int) = (kk : Int) := by rw [IntKind.wrap_u64]; omega
            have hw6 : IntKind.u64.wrap ((n : Int) - (kk : Int)) = (nn : Int) := by rw [IntKind.wrap_u64]; omega
            obtain ⟨L, hL⟩ : ∃ L, (s.drop k).take kk = L := ⟨_, rfl⟩
            have hLl : L.length = kk := by rw [← hL, List.length_take, hdl]; omega
            rw [hL] at HRUN
            obtain ⟨A', c', hsl, hCl⟩ : ∃ A' c', (∀ W : World, (Instr.slice 24 (.slice A s.length c) (some (.int .i64 (k : Int))) (some (.int .i64 (m : Int))) none).run Tryd.prog W = .ok (.slice A' kk c') W) ∧ Aside0 (∀ W, Kd.C (Kd.int .u8) W A s.length s → Kd.C (Kd.int .u8) W A' L.length L) := by
              have e1 : (s.take m).drop k = L := by rw [← hL, List.drop_take]; congr 1; omega
              refine ⟨_, c - k, fun W => ?_, ⟨fun W hW => e1 ▸ Kd.C_mid (c := c) hW (by omega) (by omega) hc⟩⟩
              have hq : (Tryd.prog.info? 5).map (fun i => i.size) = some 1 := by kernel_rfl
              obtain ⟨i, hi, hsz⟩ := Option.map_eq_some_iff.1 hq
              have := cut_mid (P := Tryd.prog) 24 5 .i64 .i64 Tryd.underlying24 hi 1 hsz A s.length c (k : Int) (m : Int) (by omega) (by omega) (by omega) hc W
              rw [this]
              simp only [Int.toNat_natCast, show m - k = kk by omega]
              rfl
            have HCL := Aside0.mk (hCl.out wr (C8_moves HQ.out.far.m HR.out HA.out))
            have hBr := Nat.le_trans hB HQ.out.far.m.sz
            have hlo : out.length + L.length ≤ 140737488355328 := by rw [hLl]; have := HOL.out; omega
            have HIN := Aside0.mk hIN
            have HNN := Aside0.mk (show n - kk = nn ∧ k + kk = m ∧ L.length = kk from ⟨hnn, hm, hLl⟩)
            have HKK := Aside0.mk hkk
            have HQQ := Aside0.mk hq
            have hmle : m ≤ s.length := by omega
            have hmk : k < m := by omega
            have hnnle : nn ≤ 4611686018427387903 := by omega
            have HCO := Aside0.mk hco
            have k12 : wr.cell? ⟨b, 12, none⟩ = some (.int .i64 0) := HQ.out.at_.c12
            have k4 : wr.cell? ⟨b, 4, none⟩ = some (.int .u64 (n : Int)) := HQ.out.at_.c4
            clear hrun hch hIN hnn hm hq hkk hL hLl hCl hco hdl
            by_cases hqn : q < n
            · have hqn' : (q : Int) < (n : Int) := by omega
              have hkq : kk = q := by have := HKK.out; have := HQQ.out; omega
              subst hkq
              have hz : ¬ nn = 0 := by have := HNN.out.1; omega
              have hz' : ((nn : Int) == 0) = false := by rw [beq_eq_false_iff_ne]; omega
              clear hmn hkkn
              go_wp2_with ((with_reducible refine gate_builtin (b := .append) (xs := #[.tmp 42, .tmp 48]) rfl ?_); at_builtin; refine list_plusD w.heap.size rfl (.tmp 42) (.tmp 48) 24 (.int .u8 0) rfl Tryd.underlying24 info5 rfl (.slice Ao out.length cO) out L A' c' rfl (by rw [HNN.out.2.2]; rfl) HQ.out.row HCL.out HQ.out.far.m.sz hlo ?_; intro v1 w1 hr1 hb1 hg1 hat1; obtain ⟨A1, c1, q1, _, _⟩ := hr1.reads; rw [show (out ++ L).length = out.length + kk from by rw [List.length_append, HNN.out.2.2]] at q1; subst q1; have HA1 := Aside0.mk (HQ.out.at_.grow hg1 HQ.out.dis); have HR1 := Aside0.mk hr1; have HB1 := Aside0.mk hb1; have HGR := Aside0.mk hg1; have HAT := Aside0.mk hat1; have k41 : w1.cell? ⟨b, 4, none⟩ = some (.int .u64 (n : Int)) := HA1.out.c4; have z41 := HA1.out.fz 4; have k31 : w1.cell? ⟨b, 3, none⟩ = some (.int .i64 3) := HA1.out.c3; have z31 := HA1.out.fz 3; clear hr1 hb1 hg1 hat1 k4 k3 k12)
              go_roundw
              case rel =>
                refine ⟨m, ⟨3, nn, cnt, li, sz, tx, D ++ L, F⟩, out ++ L, _, lv', fv', co, 0, rfl, rfl, hmle, ⟨?_⟩⟩
                have hat2 : AtD (w1.setCell ⟨b, 4, none⟩ (.int .u64 (nn : Int))) B b e0 e1 e2 ⟨3, nn, cnt, li, sz, tx, D ++ L, F⟩ co lv' fv' tk gv 0 := (by have h := HA1.out.s4 nn; exact ⟨h.i, h.l, h.f, h.hb⟩)
                have ho : Only b w1 (w1.setCell ⟨b, 4, none⟩ (.int .u64 (nn : Int))) := Only.set _ _ _
                have hdis : ∀ x, (Value.slice A1 (out.length + kk) c1).ownBlock = some x → ¬ Own3 b lv' fv' x := fun x hx hs => by
                  rcases HAT.out x hx with h | h
                  · exact HQ.out.dis x h hs
                  · have := HQ.out.at_.own_lt hs
                    omega
                have hrm := HR1.out.moves (Moves.of_only ho (.inl rfl)) hdis
                have hfar1 : Far w w1 B b lv fv lv' fv' := ⟨HQ.out.far.m.grow HGR.out (fun x hx => (HQ.out.row.at x hx).1), HQ.out.far.b.trans (HB1.out.mono hB)⟩
                refine ⟨hat2, hfar1.trans (Far.only ho HQ.out.at_.hb), hrm.1, hrm.2, ?_, ?_, .inl ⟨rfl, (by show ¬ 3 = 11; decide), HCO.out, ?_, ?_⟩⟩
                · show D ++ L = X.data ++ (out ++ L)
                  have : D = X.data ++ out := HQ.out.dat
                  rw [this, List.append_assoc]
                · rw [List.length_append, HNN.out.2.2]
                  have := HQ.out.ol
                  have := HNN.out.2.1
                  omega
                · obtain ⟨q1, q2, q3, q4, q5, q6, q7, q8, q9, q10⟩ := HIN.out
                  dsimp only at q1 q2 q3 q4 q5 q6 q7 q8 q9 q10
                  have := HNN.out.2.1
                  have := HNN.out.2.2
                  exact ⟨(by show 3 ≤ 11; omega), (by show nn ≤ 4611686018427387903; omega), (by show cnt ≤ i + m; omega), (by show li ≤ i + m; omega), (by show sz ≤ i + m; omega), (by show tx.length ≤ i + m; omega), (by show (D ++ L).length ≤ i + m; rw [List.length_append]; omega), (by show F.length ≤ i + m; omega), (fun _ => Nat.pos_of_ne_zero hz), (fun h => by simp at h)⟩
                · have := HRUN.out
                  rw [if_neg hz] at this
                  exact this
              case measure =>
                have hcl : (w1.setCell ⟨b, 4, none⟩ (.int .u64 (nn : Int))).cell? ⟨b, 12, none⟩ = some (.int .i64 0) := (HA1.out.s4 nn).c12
                have hcl0 : wr.cell? ⟨b, 12, none⟩ = some (.int .i64 0) := HQ.out.at_.c12
                try rw [hcl]
                try rw [hcl0]
                simp [intOf]
                omega
            · have hqn' : ¬ (q : Int) < (n : Int) := by omega
              have hkq : kk = n := by have := HKK.out; have := HQQ.out; omega
              subst hkq
              obtain rfl : nn = 0 := by have := HNN.out.1; omega
              have hw7 : IntKind.u64.wrap 0 = 0 := by decide
              clear hmn hkkn
              go_wp2_with ((with_reducible refine gate_builtin (b := .append) (xs := #[.tmp 42, .tmp 48]) rfl ?_); at_builtin; refine list_plusD w.heap.size rfl (.tmp 42) (.tmp 48) 24 (.int .u8 0) rfl Tryd.underlying24 info5 rfl (.slice Ao out.length cO) out L A' c' rfl (by rw [HNN.out.2.2]; rfl) HQ.out.row HCL.out HQ.out.far.m.sz hlo ?_; intro v1 w1 hr1 hb1 hg1 hat1; obtain ⟨A1, c1, q1, _, _⟩ := hr1.reads; rw [show (out ++ L).length = out.length + kk from by rw [List.length_append, HNN.out.2.2]] at q1; subst q1; have HA1 := Aside0.mk (HQ.out.at_.grow hg1 HQ.out.dis); have HR1 := Aside0.mk hr1; have HB1 := Aside0.mk hb1; have HGR := Aside0.mk hg1; have HAT := Aside0.mk hat1; have k41 : w1.cell? ⟨b, 4, none⟩ = some (.int .u64 (kk : Int)) := HA1.out.c4; have z41 := HA1.out.fz 4; have k31 : w1.cell? ⟨b, 3, none⟩ = some (.int .i64 3) := HA1.out.c3; have z31 := HA1.out.fz 3; clear hr1 hb1 hg1 hat1 k4 k3 k12)
              go_roundw
              case rel =>
                refine ⟨m, ⟨4, 0, cnt, li, sz, tx, D ++ L, F⟩, out ++ L, _, lv', fv', co, 0, rfl, rfl, hmle, ⟨?_⟩⟩
                have hat2 : AtD ((w1.setCell ⟨b, 4, none⟩ (.int .u64 0)).setCell ⟨b, 3, none⟩ (.int .i64 4)) B b e0 e1 e2 ⟨4, 0, cnt, li, sz, tx, D ++ L, F⟩ co lv' fv' tk gv 0 := (by have h := (HA1.out.s4 0).s3 4; exact ⟨h.i, h.l, h.f, h.hb⟩)
                have ho : Only b w1 ((w1.setCell ⟨b, 4, none⟩ (.int .u64 0)).setCell ⟨b, 3, none⟩ (.int .i64 4)) := (Only.set _ _ _).trans (Only.set _ _ _)
                have hdis : ∀ x, (Value.slice A1 (out.length + kk) c1).ownBlock = some x → ¬ Own3 b lv' fv' x := fun x hx hs => by
                  rcases HAT.out x hx with h | h
                  · exact HQ.out.dis x h hs
                  · have := HQ.out.at_.own_lt hs
                    omega
                have hrm := HR1.out.moves (Moves.of_only ho (.inl rfl)) hdis
                have hfar1 : Far w w1 B b lv fv lv' fv' := ⟨HQ.out.far.m.grow HGR.out (fun x hx => (HQ.out.row.at x hx).1), HQ.out.far.b.trans (HB1.out.mono hB)⟩
                refine ⟨hat2, hfar1.trans (Far.only ho HQ.out.at_.hb), hrm.1, hrm.2, ?_, ?_, .inl ⟨rfl, (by show ¬ 4 = 11; decide), HCO.out, ?_, ?_⟩⟩
                · show D ++ L = X.data ++ (out ++ L)
                  have : D = X.data ++ out := HQ.out.dat
                  rw [this, List.append_assoc]
                · rw [List.length_append, HNN.out.2.2]
                  have := HQ.out.ol
                  have := HNN.out.2.1
                  omega
                · obtain ⟨q1, q2, q3, q4, q5, q6, q7, q8, q9, q10⟩ := HIN.out
                  dsimp only at q1 q2 q3 q4 q5 q6 q7 q8 q9 q10
                  have := HNN.out.2.1
                  have := HNN.out.2.2
                  exact ⟨(by show 4 ≤ 11; omega), (by show 0 ≤ 4611686018427387903; omega), (by show cnt ≤ i + m; omega), (by show li ≤ i + m; omega), (by show sz ≤ i + m; omega), (by show tx.length ≤ i + m; omega), (by show (D ++ L).length ≤ i + m; rw [List.length_append]; omega), (by show F.length ≤ i + m; omega), (fun h => by cases h), (fun h => by simp at h)⟩
                · have := HRUN.out
                  rw [if_pos rfl] at this
                  exact this
              case measure =>
                have hcl : ((w1.setCell ⟨b, 4, none⟩ (.int .u64 0)).setCell ⟨b, 3, none⟩ (.int .i64 4)).cell? ⟨b, 12, none⟩ = some (.int .i64 0) := ((HA1.out.s4 0).s3 4).c12
                have hcl0 : wr.cell? ⟨b, 12, none⟩ = some (.int .i64 0) := HQ.out.at_.c12
                try rw [hcl]
                try rw [hcl0]
                simp [intOf]
                omega
          · obtain ⟨hco, hIN, hrun⟩ : co = Y.count ∧ InvN Y (i + k) ∧ mrun (envM e0 e1 e2) X s 0 = mrun (envM e0 e1 e2) Y (s.drop k) k := by
              rcases HQ.out.run with ⟨_, _, h1, h2, h3⟩ | ⟨_, h, _⟩ | ⟨h, _⟩
              · exact ⟨h1, h2, h3⟩
              · exact absurd h hp
              · exact absurd rfl h
            subst hco
            have hpe3 : ((Y.place : Int) == 3) = false := by rw [beq_eq_false_iff_ne]; omega
            obtain ⟨ad, eA, _, hcell⟩ := C_u8 (C8_moves HQ.out.far.m HR.out HA.out) (by omega)
            have hck := hcell k (s.getD k 0) (by rw [List.getD_eq_getElem?_getD, List.getElem?_eq_getElem hlt]; rfl)
            have hcb := HS.out (s.getD k 0) (by rw [List.getD_eq_getElem?_getD, List.getElem?_eq_getElem hlt]; exact List.getElem_mem hlt)
            have HDR := Aside0.mk (hrun.trans (by rw [drop_at hlt] : mrun (envM e0 e1 e2) Y (s.drop k) k = mrun (envM e0 e1 e2) Y (s.getD k 0 :: s.drop (k + 1)) k))
            have hadw : ad.block < w.heap.size := by
              obtain ⟨ad', eA', _, hcell'⟩ := C_u8 HR.out (by omega)
              cases eA.symm.trans eA'
              have := World.block_lt_of_cell? _ _ (hcell' k (s.getD k 0) (by rw [List.getD_eq_getElem?_getD, List.getElem?_eq_getElem hlt]; rfl))
              have hbk : (ad.add k).block = ad.block := by unfold Addr.add; split <;> rfl
              rwa [hbk] at this
            have HAD := Aside0.mk (show ¬ Own3 b lv' fv' ad.block from fun hs => (HQ.out.far.m.own _ hs).elim (HA.out (by omega) ad eA) (fun hle => by omega))
            have HBK := Aside0.mk (show (ad.add k).block = ad.block by unfold Addr.add; split <;> rfl)
            subst eA
            generalize s.getD k 0 = x at *
            obtain ⟨F, hF, hE, hT⟩ := take_any B b e0 e1 e2 Y (i + k) tk gv x hIN (by omega) h3 hp hcb
            have HT := Aside0.mk hT
            have hE' : ∀ (args : Array Value) (W : World), (callFunc F args).run Tryd.prog W = .ok (.enter F args) W := fun args W => hE args W
            have hBr := Nat.le_trans hB HQ.out.far.m.sz
            have HWY := Aside0.mk (way_calls b Y.place F hF wr.drew HQ.out.at_.c3)
            have HCK := Aside0.mk hck
            have HIN := Aside0.mk hIN
            have HCB := Aside0.mk hcb
            have k12 : wr.cell? ⟨b, 12, none⟩ = some (.int .i64 0) := HQ.out.at_.c12
            clear hcell hrun hT hF hIN hcb
            have hfd : ∀ W : World, (Instr.field 76 (.agg #[.func (.func F) #[] #[]]) 0).run Tryd.prog W = .ok (.func (.func F) #[] #[]) W := fun _ => by kernel_rfl
            go_upto_region 9 with (fail)
            clear k12 k3
            refine wp_region_held_drew (S := (fun W => W.cell? (ad.add k) = some (.int .u8 x))) (by kernel_rfl) ?_ (fun hHeld => ?_)
            · exact HCK.out
            refine take_at (i := 0) (take_d rfl) ?_
            intro h_i
            refine wpAnyH_take (v := ?_) h_i (by kernel_rfl) (by kernel_rfl) (by kernel_rfl) (fun _ _ _ h => h) (Or.inl ⟨by rfl, ?_⟩) (by assumption) ?_
            case refine_2 => (intro w hSw; (try dsimp only at hSw); go_simp; (try with_reducible rfl))
            clear h_i
            try simp only [Act.put, List.setIfInBounds_toArray, List.set_cons_zero, List.set_cons_succ]
            refine take_at (i := 1) (take_d rfl) ?_
            intro h_i
            refine wpAnyH_take (v := ?_) h_i (by kernel_rfl) (by kernel_rfl) (by kernel_rfl) (fun _ _ _ h => h) (Or.inl ⟨by rfl, ?_⟩) (by assumption) ?_
            case refine_2 => (intro w hSw; (try dsimp only at hSw); go_simp; (try with_reducible rfl))
            clear h_i
            try simp only [Act.put, List.setIfInBounds_toArray, List.set_cons_zero, List.set_cons_succ]
            refine take_at (i := 4) (take_d rfl) ?_
            intro h_i
            refine wpAnyH_take (v := ?_) h_i (by kernel_rfl) (by kernel_rfl) (by kernel_rfl) (fun _ _ _ h => h) (Or.inl ⟨by rfl, ?_⟩) (by assumption) ?_
            case refine_2 => (intro w hSw; (try dsimp only at hSw); go_simp; (try with_reducible rfl))
            clear h_i
            try simp only [Act.put, List.setIfInBounds_toArray, List.set_cons_zero, List.set_cons_succ]
            refine take_at (i := 5) (take_d rfl) ?_
            intro h_i
            refine wpAnyH_take (v := ?_) h_i (by kernel_rfl) (by kernel_rfl) (by kernel_rfl) (fun _ _ _ h => h) (Or.inl ⟨by rfl, ?_⟩) (by assumption) ?_
            case refine_2 => (intro w hSw; (try dsimp only at hSw); go_simp; (try with_reducible rfl))
            clear h_i
            try simp only [Act.put, List.setIfInBounds_toArray, List.set_cons_zero, List.set_cons_succ]
            refine take_at (i := 6) (take_d rfl) ?_
            intro h_i
            refine wpAnyH_take (v := ?_) h_i (by kernel_rfl) (by kernel_rfl) (by kernel_rfl) (fun _ _ _ h => h) (Or.inl ⟨by rfl, ?_⟩) (by assumption) ?_
            case refine_2 => (intro w hSw; (try dsimp only at hSw); go_simp; (try with_reducible rfl))
            clear h_i
            try simp only [Act.put, List.setIfInBounds_toArray, List.set_cons_zero, List.set_cons_succ]
            refine take_at (i := 7) (take_d rfl) ?_
            intro h_i
            refine wpAnyH_take (v := ?_) h_i (by kernel_rfl) (by kernel_rfl) (by kernel_rfl) (fun _ _ _ h => h) (Or.inl ⟨by rfl, ?_⟩) (by assumption) ?_
            case refine_2 => (intro w hSw; (try dsimp only at hSw); go_simp; (try with_reducible rfl))
            clear h_i
            try simp only [Act.put, List.setIfInBounds_toArray, List.set_cons_zero, List.set_cons_succ]
            refine take_at (i := 8) (take_d rfl) ?_
            intro h_i
            refine wpAnyH_take (v := ?_) h_i (by kernel_rfl) (by kernel_rfl) (by kernel_rfl) (fun _ _ _ h => h) (Or.inl ⟨by rfl, ?_⟩) (by assumption) ?_
            case refine_2 => (intro w hSw; (try dsimp only at hSw); go_simp; (try with_reducible rfl))
            clear h_i
            try simp only [Act.put, List.setIfInBounds_toArray, List.set_cons_zero, List.set_cons_succ]
            refine wpAnyH_ready (rs := [2]) (by kernel_rfl) (by simp) ?_
            refine AllReadyH.cons (take_d rfl) (fun zK hK => ?_) AllReadyH.nil
            go_simp
            refine HWY.out.mono ?_
            rintro e w5 ⟨rfl, hb5⟩
            have HB5 := Aside0.mk ((below_drew (Below.refl wr.heap.size wr)).trans hb5)
            have hck5 := pw_cell_below HB5.out HCK.out
            clear hb5
            go_wp2_with fail
            refine hK.out _ _ ?_ (fun hHeld2 => ?_)
            · exact hck5
            clear hK zK hHeld
            have hHeld := hHeld2
            clear hHeld2
            try simp only [Act.put, List.setIfInBounds_toArray, List.set_cons_zero, List.set_cons_succ]
            refine take_at (i := 3) (take_d rfl) ?_
            intro h_i
            refine wpAnyH_take (v := ?_) h_i (by kernel_rfl) (by kernel_rfl) (by kernel_rfl) (fun _ _ _ h => h) (Or.inl ⟨by rfl, ?_⟩) (by assumption) ?_
            case refine_2 => (intro w hSw; (try dsimp only at hSw); go_simp; (try with_reducible rfl))
            clear h_i
            try simp only [Act.put, List.setIfInBounds_toArray, List.set_cons_zero, List.set_cons_succ]
            refine wpAnyH_ready (rs := [9]) (by kernel_rfl) (by simp) ?_
            refine AllReadyH.cons (take_d rfl) (fun zK hK => ?_) AllReadyH.nil
            go_simp
            refine (HT.out w5 lv' fv' (HQ.out.at_.below HB5.out) (fun W hW => HG.out W ((HQ.out.far.b.trans (HB5.out.mono hBr)).trans hW)) (Nat.le_trans hBr HB5.out.size)).mono ?_
            rintro e w6 ⟨Y6, co6, lv6, fv6, er6, rfl, hat6, hf6, hms⟩
            have HA6 := Aside0.mk hat6
            have HF6 := Aside0.mk hf6
            have HMS := Aside0.mk hms
            have hck6 := cell_moves hf6.m hck5 (by rw [HBK.out]; exact HAD.out)
            have k126 := hat6.c12
            have z126 := hat6.fz 12
            clear hat6 hf6 hms
            go_wp2_with fail
            refine hK.out _ _ ?_ (fun hHeld2 => ?_)
            · exact hck6
            clear hK zK hHeld
            have hHeld := hHeld2
            clear hHeld2
            try simp only [Act.put, List.setIfInBounds_toArray, List.set_cons_zero, List.set_cons_succ]
            refine take_at (i := 10) (take_d rfl) ?_
            intro h_i
            refine wpAnyH_take (v := ?_) h_i (by kernel_rfl) (by kernel_rfl) (by kernel_rfl) (fun _ _ _ h => h) (Or.inl ⟨by rfl, ?_⟩) (by assumption) ?_
            case refine_2 => (intro w hSw; (try dsimp only at hSw); go_simp; (try with_reducible rfl))
            clear h_i
            try simp only [Act.put, List.setIfInBounds_toArray, List.set_cons_zero, List.set_cons_succ]
            refine take_at (i := 11) (take_d rfl) ?_
            intro h_i
            refine wpAnyH_take (v := ?_) h_i (by kernel_rfl) (by kernel_rfl) (by kernel_rfl) (fun _ _ _ h => h) (Or.inl ⟨by rfl, ?_⟩) (by assumption) ?_
            case refine_2 => (intro w hSw; (try dsimp only at hSw); go_simp; (try with_reducible rfl))
            clear h_i
            try simp only [Act.put, List.setIfInBounds_toArray, List.set_cons_zero, List.set_cons_succ]
            refine wpAnyH_ready (rs := [12]) (by kernel_rfl) (by simp) ?_
            refine AllReadyH.cons (take_d rfl) (fun zK hK => ?_) AllReadyH.nil
            go_simp
            refine hK.out _ _ ?_ (fun hHeld2 => ?_)
            · (rw [cell_far (Below.heap_setCell _ ⟨b, 12, none⟩ _ _ (by rw [HBK.out]; exact fun e => HAD.out (.inl e)))]; exact hck6)
            clear hK zK hHeld
            have hHeld := hHeld2
            clear hHeld2
            try simp only [Act.put, List.setIfInBounds_toArray, List.set_cons_zero, List.set_cons_succ]
            refine wpAnyH_done (by kernel_rfl) ?_ _
            obtain ⟨w7, hw7⟩ : ∃ w7, w6.setCell ⟨b, 12, none⟩ (.int .i64 er6) = w7 := ⟨_, rfl⟩
            have HA7 := Aside0.mk (show AtD w7 B b e0 e1 e2 Y6 co6 lv6 fv6 tk gv er6 by rw [← hw7]; exact HA6.out.s12 er6)
            have HM7 := Aside0.mk (show Far wr w7 B b lv' fv' lv6 fv6 by rw [← hw7]; exact (Far.of_below HB5.out hBr).trans (HF6.out.trans (Far.only (Only.set _ _ _) HA6.out.hb)))
            rw [hw7]
            clear hw7 k126 z126 hck
            have k127 : w7.cell? ⟨b, 12, none⟩ = some (.int .i64 er6) := HA7.out.c12
            obtain ⟨k1, hk1⟩ : ∃ k1, k + 1 = k1 := ⟨_, rfl⟩
            have hw1 : IntKind.i64.wrap ((k : Int) + 1) = (k1 : Int) := by
              unfold IntKind.wrap
              simp [IntKind.bits, IntKind.signed]
              omega
            have HK1 := Aside0.mk hk1
            clear hk1
            have HRM := Aside0.mk (HQ.out.row.moves HM7.out.m HQ.out.dis)
            rcases HMS.out with ⟨hok, rfl, rfl⟩ | ⟨herr, hne, rfl⟩
            · go_wp2_with fail
              go_roundw
              case rel =>
                have hk1 := HK1.out
                refine ⟨k1, Y6, out, _, lv6, fv6, Y6.count, 0, rfl, rfl, by omega, ⟨⟨HA7.out, HQ.out.far.trans HM7.out, HRM.out.1, HRM.out.2, ?_, by have := HQ.out.ol; omega, ?_⟩⟩⟩
                · rw [step_data hok h3]
                  exact HQ.out.dat
                · by_cases hp6 : Y6.place = 11
                  · exact .inr (.inl ⟨rfl, hp6, by rw [HDR.out, run_fin hok hp6, hk1]⟩)
                  · exact .inl ⟨rfl, hp6, rfl, by rw [← hk1]; exact invN_step HIN.out HCB.out hok, by rw [HDR.out, run_on hok hp6, hk1]⟩
              case measure =>
                have hk1 := HK1.out
                have hcl : w7.cell? ⟨b, 12, none⟩ = some (.int .i64 0) := HA7.out.c12
                have hcl0 : wr.cell? ⟨b, 12, none⟩ = some (.int .i64 0) := HQ.out.at_.c12
                try rw [hcl]
                try rw [hcl0]
                simp [intOf]
                omega
            · have hne' : (er6 == 0) = false := by rw [beq_eq_false_iff_ne]; exact hne
              go_wp2_with fail
              go_roundw
              case rel =>
                refine ⟨k, Y6, out, _, lv6, fv6, co6, er6, rfl, rfl, hk, ⟨⟨HA7.out, HQ.out.far.trans HM7.out, HRM.out.1, HRM.out.2, HQ.out.dat, HQ.out.ol, .inr (.inr ⟨hne, by have := mstep_err herr; omega, by rw [HDR.out, run_err herr]⟩)⟩⟩⟩
              case measure =>
                have hcl : w7.cell? ⟨b, 12, none⟩ = some (.int .i64 er6) := HA7.out.c12
                have hcl0 : wr.cell? ⟨b, 12, none⟩ = some (.int .i64 0) := HQ.out.at_.c12
                try rw [hcl]
                try rw [hcl0]
                simp [intOf, hne]
      · have hee : (er == 0) = false := by rw [beq_eq_false_iff_ne]; exact he
        have k10 := HQ.out.at_.c10
        have k11 := HQ.out.at_.c11
        have z10 := HQ.out.at_.fz 10
        have z11 := HQ.out.at_.fz 11
        have k12 := HQ.out.at_.c12
        obtain ⟨tk1, htk1⟩ : ∃ q, tk + k = q := ⟨_, rfl⟩
        obtain ⟨gv1, hgv1⟩ : ∃ q, gv + out.length = q := ⟨_, rfl⟩
        have hwt : IntKind.i64.wrap ((tk : Int) + (k : Int)) = (tk1 : Int) := by
          unfold IntKind.wrap
          simp [IntKind.bits, IntKind.signed]
          omega
        have hwg : IntKind.i64.wrap ((gv : Int) + (out.length : Int)) = (gv1 : Int) := by
          have := HOL.out
          unfold IntKind.wrap
          simp [IntKind.bits, IntKind.signed]
          omega
        have HT1 := Aside0.mk htk1
        have HG1 := Aside0.mk hgv1
        obtain ⟨W4, hW4⟩ : ∃ W4, ((wr.setCell ⟨b, 10, none⟩ (.int .i64 (tk1 : Int))).setCell ⟨b, 11, none⟩ (.int .i64 (gv1 : Int))) = W4 := ⟨_, rfl⟩
        have HW4 := Aside0.mk (show AtD W4 B b e0 e1 e2 Y co lv' fv' tk1 gv1 er by rw [← hW4]; exact (HQ.out.at_.s10 tk1).s11 gv1)
        have HO4 := Aside0.mk (show Only b wr W4 by rw [← hW4]; exact (Only.set _ _ _).trans (Only.set _ _ _))
        have HE4 := Aside0.mk hW4
        clear htk1 hgv1 hW4
        go_upto_region 14 with (fail)
        rw [HE4.out]
        have k12' := HW4.out.c12
        clear k10 k11 z10 z11 k12 HE4
        go_region_held3 (fun W => W.cell? ⟨b, 12, none⟩ = some (.int .i64 er)) (exact k12') (fail)
        have HEN := Aside0.mk (HQ.out.ends hk (.inr (.inl he)) (HO4.out.trans (Only.of_below (below_drew (Below.refl _ _)) (Nat.le_of_lt HW4.out.lt))) (by rw [HT1.out, HG1.out]; exact HW4.out.below (below_drew (Below.refl _ _))))
        go_wp2
        refine bodyPost_ret (results_tmp3 rfl _ _ _) rfl ?_
        go_simp
        exact HEN.out
    · have hlt' : ¬ (k : Int) < (s.length : Int) := by omega
      have k10 := HQ.out.at_.c10
      have k11 := HQ.out.at_.c11
      have z10 := HQ.out.at_.fz 10
      have z11 := HQ.out.at_.fz 11
      have k12 := HQ.out.at_.c12
      obtain ⟨tk1, htk1⟩ : ∃ q, tk + k = q := ⟨_, rfl⟩
      obtain ⟨gv1, hgv1⟩ : ∃ q, gv + out.length = q := ⟨_, rfl⟩
      have hwt : IntKind.i64.wrap ((tk : Int) + (k : Int)) = (tk1 : Int) := by
        unfold IntKind.wrap
        simp [IntKind.bits, IntKind.signed]
        omega
      have hwg : IntKind.i64.wrap ((gv : Int) + (out.length : Int)) = (gv1 : Int) := by
        have := HOL.out
        unfold IntKind.wrap
        simp [IntKind.bits, IntKind.signed]
        omega
      have HT1 := Aside0.mk htk1
      have HG1 := Aside0.mk hgv1
      obtain ⟨W4, hW4⟩ : ∃ W4, ((wr.setCell ⟨b, 10, none⟩ (.int .i64 (tk1 : Int))).setCell ⟨b, 11, none⟩ (.int .i64 (gv1 : Int))) = W4 := ⟨_, rfl⟩
      have HW4 := Aside0.mk (show AtD W4 B b e0 e1 e2 Y co lv' fv' tk1 gv1 er by rw [← hW4]; exact (HQ.out.at_.s10 tk1).s11 gv1)
      have HO4 := Aside0.mk (show Only b wr W4 by rw [← hW4]; exact (Only.set _ _ _).trans (Only.set _ _ _))
      have HE4 := Aside0.mk hW4
      clear htk1 hgv1 hW4
      go_upto_region 14 with (fail)
      rw [HE4.out]
      have k12' := HW4.out.c12
      clear k10 k11 z10 z11 k12 HE4
      go_region_held3 (fun W => W.cell? ⟨b, 12, none⟩ = some (.int .i64 er)) (exact k12') (fail)
      have HEN := Aside0.mk (HQ.out.ends hk (.inl (by omega)) (HO4.out.trans (Only.of_below (below_drew (Below.refl _ _)) (Nat.le_of_lt HW4.out.lt))) (by rw [HT1.out, HG1.out]; exact HW4.out.below (below_drew (Below.refl _ _))))
      go_wp2
      refine bodyPost_ret (results_tmp3 rfl _ _ _) rfl ?_
      go_simp
      exact HEN.out
end Go.Proofs.YtmmbpbgcobmifaaDoorH
end
section
namespace Go.Proofs.YtmmbpbgcobmifaaDoor.Pr
end Go.Proofs.YtmmbpbgcobmifaaDoor.Pr
namespace Go.Proofs.YtmmbpbgcobmifaaDoorH
set_option linter.unusedVariables false
set_option linter.unusedSimpArgs false
open Go Go.RowKit Go.Proofs.YtmmbpbgcobmifaaDoorW.PrintWords Go.Proofs.YtmmbpbgcobmifaaDoorW.PrintLast Go.Proofs.YtmmbpbgcobmifaaDoorW.PrintMore Go.Proofs.YtmmbpbgcobmifaaDoor.Pr Go.Proofs.YtmmbpbgcobmifaaDoorM
section
variable (B b e0 e1 e2 : Nat) (X : MSt Fld) (co : Nat) (lv fv : Value) (tk gv : Nat) (er : Int) (w : World)
set_option maxHeartbeats 1600000 in
set_option maxRecDepth 100000 in
theorem done_calls (h : AtD w B b e0 e1 e2 X co lv fv tk gv er) :
    Calls Tryd.prog 17 #[.pointer (some ⟨b, 0, none⟩)] w fun e w' => e = .returned (.bool ((X.place : Int) == 11)) ∧ w' = w := by
  have k := h.c3
  go_enter Tryd.func17, Tryd.ntmps17
  go_wp2
  go_ret
  exact ⟨rfl, rfl⟩
set_option maxHeartbeats 1600000 in
set_option maxRecDepth 100000 in
theorem taken_calls (h : AtD w B b e0 e1 e2 X co lv fv tk gv er) :
    Calls Tryd.prog 18 #[.pointer (some ⟨b, 0, none⟩)] w fun e w' => e = .returned (.int .i64 (tk : Int)) ∧ w' = w := by
  have k := h.c10
  go_enter Tryd.func18, Tryd.ntmps18
  go_wp2
  go_ret
  exact ⟨rfl, rfl⟩
set_option maxHeartbeats 1600000 in
set_option maxRecDepth 100000 in
theorem given_calls (h : AtD w B b e0 e1 e2 X co lv fv tk gv er) :
    Calls Tryd.prog 20 #[.pointer (some ⟨b, 0, none⟩)] w fun e w' => e = .returned (.int .i64 (gv : Int)) ∧ w' = w := by
  have k := h.c11
  go_enter Tryd.func20, Tryd.ntmps20
  go_wp2
  go_ret
  exact ⟨rfl, rfl⟩
set_option maxHeartbeats 1600000 in
set_option maxRecDepth 100000 in
theorem err_calls (h : AtD w B b e0 e1 e2 X co lv fv tk gv er) :
    Calls Tryd.prog 19 #[.pointer (some ⟨b, 0, none⟩)] w fun e w' => e = .returned (.int .i64 er) ∧ w' = w := by
  have k := h.c12
  go_enter Tryd.func19, Tryd.ntmps19
  go_wp2
  go_ret
  exact ⟨rfl, rfl⟩
set_option maxHeartbeats 1600000 in
set_option maxRecDepth 100000 in
theorem left_calls (h : AtD w B b e0 e1 e2 X co lv fv tk gv er) :
    Calls Tryd.prog 23 #[.pointer (some ⟨b, 0, none⟩)] w fun e w' => e = .returned (.int .u64 (if X.place = 3 then (X.n : Int) else 0)) ∧ w' = w := by
  have k3 := h.c3
  have k4 := h.c4
  by_cases hp : X.place = 3
  · rw [if_pos hp]
    have hp' : ((X.place : Int) != 3) = false := by rw [bne_eq_false_iff_eq]; omega
    clear hp h
    go_enter Tryd.func23, Tryd.ntmps23
    go_wp2
    go_ret
    exact ⟨rfl, rfl⟩
  · rw [if_neg hp]
    have hp' : ((X.place : Int) != 3) = true := by rw [bne_iff_ne]; omega
    clear hp h
    go_enter Tryd.func23, Tryd.ntmps23
    go_wp2
    go_ret
    exact ⟨rfl, rfl⟩
end
theorem encG_flat : ∀ (l : List Fld) (j : Nat) (u : Value), (l.flatMap encG)[j]? = some u → ∃ p, l[j / 2]? = some p ∧ (encG p)[j % 2]? = some u
  | [], j, u, h => by simp at h
  | x :: l, 0, u, h => ⟨x, rfl, h⟩
  | x :: l, 1, u, h => ⟨x, rfl, h⟩
  | x :: l, j + 2, u, h => by
    have h : (l.flatMap encG)[j]? = some u := h
    obtain ⟨p, h1, h2⟩ := encG_flat l j u h
    refine ⟨p, ?_, ?_⟩
    · rw [show (j + 2) / 2 = j / 2 + 1 by omega]
      exact h1
    · rw [show (j + 2) % 2 = j % 2 by omega]
      exact h2
theorem row_emptyG {W : World} {base b : Nat} (h : W.heap[b]? = some (.cells #[] 53 (0, 0))) (hb : base ≤ b) : RowG W base (.slice (some ⟨b, 0, none⟩) 0 0) [] :=
  ⟨rfl, .inr ⟨b, 0, #[], rfl, hb, h, Nat.le_refl _, Nat.zero_le _, rfl, rfl⟩⟩
theorem list_plusF {P : Program} {ops : Array Oper} {rest : List Oper} {o : Oper} {a : Act} {Q : Exit → Act → World → Prop} {W : World} (base : Nat) (hgd : o.guard = none) (s x : Operand) (t : TypeId) (z : Value)
    (ho : o.op = .call { callee := .builtin .append, args := #[s, x], argTypes := #[t, t] })
    (ht : P.underlying t = some (.slice 53)) (hinfo : (P.info? 53).map (fun i => (i.zero, i.size, i.bytes)) = some (some z, 2, 32)) (hz : z.cells.size = 2)
    (v : Value) (pre l : List Fld) (ad : Addr) (c : Nat) (hs : a.eval s = v) (hx : a.eval x = .slice (some ad) l.length c) (HO : RowG W base v pre) (HC : Kd.C k53 W (some ad) l.length l) (hbase : base ≤ W.heap.size)
    (hl : (pre.length + l.length) * 32 ≤ 140737488355328)
    (h : ∀ v1 w1, RowG w1 base v1 (pre ++ l) → Below base W w1 → W.grownBy w1 v.ownBlock → wpList P ops Q rest (a.put o.dst v1) w1) : wpList P ops Q (o :: rest) a W := by
  unfold wpList
  rw [if_pos (by simp [Region.wanted, hgd])]
  left
  obtain ⟨i0, hi, hzz⟩ := Option.map_eq_some_iff.1 hinfo
  simp only [Prod.mk.injEq] at hzz
  obtain ⟨hz0, hz1, hz2⟩ := hzz
  have hrow : ∀ k, v.ownBlock = some k → base ≤ k := own_base HO
  unfold Oper.wp
  simp only [execOp, ho, resolve, invoke, builtin, Sem.run_bind, Sem.run_pure, Result.andThen_ok, List.map_toArray, List.map_cons, List.map_nil, hs, hx]
  obtain ⟨v1, w1, hr, hown, hg, _, _⟩ := run_append_own_at (P := P) W base t o.type 53 i0 z 2 32 ht hi hz0 hz1 hz2 hz (by decide) v pre.length _ HO ad l.length c (l.flatMap encG) (flatMap_length_two encG 2 (fun _ => rfl) l) (fun j u hu => by
      have hj := (List.getElem?_eq_some_iff.1 hu).1
      rw [flatMap_length_two encG 2 (fun _ => rfl) l] at hj
      obtain ⟨p, h1, h2⟩ := encG_flat l j u hu
      obtain ⟨ad', e, hc⟩ := HC.2.2 (by omega)
      cases e
      obtain ⟨cs, hcl, hK, hcs⟩ := hc (j / 2) p h1
      have hcs2 := hcs (j % 2) u (by rw [k53_open hK]; exact h2)
      rw [show j / 2 * k53.sz + j % 2 = j by show j / 2 * 2 + j % 2 = j; omega] at hcs2
      exact hcs2)
    (fun u hu => by
      obtain ⟨p, _, hp⟩ := List.mem_flatMap.1 hu
      unfold encG at hp
      simp at hp
      rcases hp with rfl | rfl <;> rfl) (by simp only [maxLen]; omega) hl hbase
  rw [hr]
  refine h v1 w1 ?_ ((Below.refl _ _).grown hg hbase hrow) hg
  unfold RowG
  rw [List.length_append, List.flatMap_append]
  exact hown
set_option maxHeartbeats 4000000 in
set_option maxRecDepth 100000 in
theorem cloneF_calls (A : Option Addr) (c : Nat) (l : List Fld) (w : World) (hr : Kd.C k53 w A l.length l) (hl : l.length ≤ 1000000) :
    Calls Tryd.prog 42 #[.slice A l.length c] w fun e w' => ∃ A' c', e = .returned (.slice A' l.length c') ∧ l.length ≤ c' ∧ Kd.C k53 w' A' l.length l ∧ Below w.heap.size w w' := by
  cases A with
  | none =>
    have hn : l = [] := by
      rcases l with _ | ⟨y, l⟩
      · rfl
      · obtain ⟨_, e, _⟩ := hr.2.2 (Nat.succ_pos _)
        cases e
    subst hn
    clear hr
    have hbn : ∀ W : World, (binOp .eql 37 (.slice none 0 c) (.slice none 0 0)).run Tryd.prog W = .ok (.bool true) W := fun _ => by kernel_rfl
    go_enter Tryd.func42, Tryd.ntmps42
    go_wp2
    go_ret
    exact ⟨none, 0, rfl, Nat.le_refl _, ⟨rfl, Nat.zero_le _, fun h => absurd h (Nat.lt_irrefl _)⟩, Below.refl _ _⟩
  | some ad =>
    have HRR := Aside0.mk (Kd.C_below hr (below_alloc (Below.refl w.heap.size w) (.cells #[] 53)))
    have hbn : ∀ W : World, (binOp .eql 37 (.slice (some ad) l.length c) (.slice none 0 0)).run Tryd.prog W = .ok (.bool false) W := fun _ => by kernel_rfl
    have hbl : (0 + l.length) * 32 ≤ 140737488355328 := by omega
    clear hr
    go_enter Tryd.func42, Tryd.ntmps42
    go_wp2_with ((with_reducible refine gate_builtin (b := .append) (xs := #[.tmp 5, .tmp 6]) rfl ?_); at_builtin; refine list_plusF w.heap.size rfl (.tmp 5) (.tmp 6) 37 (.agg #[.string ⟨#[]⟩, .string ⟨#[]⟩]) rfl Tryd.underlying37 info53 rfl (.slice (some ⟨w.heap.size, 0, none⟩) 0 0) [] l ad c rfl rfl (row_emptyG (heap_alloc_new w _) (Nat.le_refl _)) HRR.out (by rw [World.size_alloc]; omega) hbl ?_; intro v1 w1 hr1 hb1 hg1; rw [List.nil_append] at hr1; obtain ⟨A1, c1, q1, hc1, hC1⟩ := hr1.reads; subst q1; have HC1 := Aside0.mk hC1; have HD1 := Aside0.mk hc1; have HB1 := Aside0.mk ((below_alloc (Below.refl w.heap.size w) _).trans hb1); clear hr1 hb1 hg1 hc1 hC1)
    go_ret
    exact ⟨A1, c1, rfl, HD1.out, HC1.out, HB1.out⟩
set_option maxHeartbeats 4000000 in
set_option maxRecDepth 100000 in
theorem fields_calls (B b e0 e1 e2 : Nat) (X : MSt Fld) (co : Nat) (lv fv : Value) (tk gv : Nat) (er : Int) (w : World) (h : AtD w B b e0 e1 e2 X co lv fv tk gv er) (hl : X.fields.length ≤ 1000000) :
    Calls Tryd.prog 25 #[.pointer (some ⟨b, 0, none⟩)] w fun e w' => ∃ A' c', e = .returned (.slice A' (if X.place = 11 then X.fields else []).length c') ∧ (if X.place = 11 then X.fields else []).length ≤ c' ∧ Kd.C k53 w' A' (if X.place = 11 then X.fields else []).length (if X.place = 11 then X.fields else []) ∧ Below w.heap.size w w' := by
  have HD := Aside0.mk (done_calls B b e0 e1 e2 X co lv fv tk gv er w h)
  by_cases hp : X.place = 11
  · rw [if_pos hp]
    have hp' : ((X.place : Int) == 11) = true := by rw [beq_iff_eq]; omega
    rw [hp'] at HD
    obtain ⟨A2, c2, q2, _, hC2⟩ := h.f.reads
    have HC := Aside0.mk (cloneF_calls A2 c2 X.fields w hC2 hl)
    have k9 := h.c9
    subst q2
    clear hp hp' h
    go_enter Tryd.func25, Tryd.ntmps25
    go_wp2_with fail
    refine HD.out.mono ?_
    rintro e w1 ⟨rfl, rfl⟩
    go_wp2_with fail
    refine HC.out.mono ?_
    rintro e w2 ⟨A3, c3, rfl, hc3, hC3, hb⟩
    have HH := Aside0.mk (And.intro hc3 (And.intro hC3 hb))
    clear hc3 hC3 hb
    go_wp2
    go_ret
    exact ⟨A3, c3, rfl, HH.out⟩
  · rw [if_neg hp]
    have hp' : ((X.place : Int) == 11) = false := by rw [beq_eq_false_iff_ne]; omega
    rw [hp'] at HD
    clear hp hp' h
    go_enter Tryd.func25, Tryd.ntmps25
    go_wp2_with fail
    refine HD.out.mono ?_
    rintro e w1 ⟨rfl, rfl⟩
    go_wp2
    go_ret
    exact ⟨none, 0, rfl, Nat.le_refl _, ⟨rfl, Nat.zero_le _, fun h => absurd h (Nat.lt_irrefl _)⟩, Below.refl _ _⟩
set_option maxHeartbeats 4000000 in
set_option maxRecDepth 100000 in
theorem new_on (e0 e1 e2 : Nat) (w : World) (hG : TabOk w) (h0 : e0 ≤ 65536) (h1 : e1 ≤ 65536) (h2 : e2 ≤ 65536) :
    Calls Tryd.prog 15 #[.agg #[.int .i64 (e0 : Int), .int .i64 (e1 : Int), .int .i64 (e2 : Int)]] w fun e w' => ∃ b, e = .returned (.tuple #[.pointer (some ⟨b, 0, none⟩), .int .i64 0]) ∧ AtD w' w.heap.size b e0 e1 e2 minit 0 (.slice none 0 0) (.slice none 0 0) 0 0 0 ∧ Below w.heap.size w w' := by
  have HBR := Aside0.mk (fun W hg => body_Right.calls (e0 : Int) (e1 : Int) (e2 : Int) true W hg (by unfold body_Right.f rightL; simp only [Option.some.injEq, Bool.and_eq_true, decide_eq_true_eq]; omega))
  obtain ⟨w1, hw1⟩ : ∃ w1, w.alloc (.cells #[.int .i64 (e0 : Int), .int .i64 (e1 : Int), .int .i64 (e2 : Int)] 23) = w1 := ⟨_, rfl⟩
  have HB1 := Aside0.mk (show Below w.heap.size w w1 by rw [← hw1]; exact below_alloc (Below.refl _ _) _)
  have hl1 : w1.heap[w.heap.size]? = some (.cells #[.int .i64 (e0 : Int), .int .i64 (e1 : Int), .int .i64 (e2 : Int)] 23 (0, 0)) := by rw [← hw1]; exact World.alloc_heap_new w _
  have HL1 := Aside0.mk hl1
  have HW1 := Aside0.mk hw1
  have HGT := Aside0.mk (hG.below HB1.out)
  have k0 : w1.cell? ⟨w.heap.size, 0, none⟩ = some (.int .i64 (e0 : Int)) := (blk_cell hl1 0).trans rfl
  have k1 : w1.cell? ⟨w.heap.size, 1, none⟩ = some (.int .i64 (e1 : Int)) := (blk_cell hl1 1).trans rfl
  have k2 : w1.cell? ⟨w.heap.size, 2, none⟩ = some (.int .i64 (e2 : Int)) := (blk_cell hl1 2).trans rfl
  clear hG hl1 hw1
  go_enter Tryd.func15, Tryd.ntmps15
  go_upto_region 1 with (fail)
  rw [HW1.out]
  go_wp2_with fail
  refine (HBR.out w1 HGT.out).mono ?_
  rintro e w2 ⟨rfl, hb2⟩
  have B2 := Aside0.mk (HB1.out.trans (hb2.mono HB1.out.size))
  have hl2 := blk_below HL1.out hb2
  have j0 : w2.cell? ⟨w.heap.size, 0, none⟩ = some (.int .i64 (e0 : Int)) := (blk_cell hl2 0).trans rfl
  have j1 : w2.cell? ⟨w.heap.size, 1, none⟩ = some (.int .i64 (e1 : Int)) := (blk_cell hl2 1).trans rfl
  have j2 : w2.cell? ⟨w.heap.size, 2, none⟩ = some (.int .i64 (e2 : Int)) := (blk_cell hl2 2).trans rfl
  clear hb2 hl2 k0 k1 k2 HW1
  go_wp2
  go_ret2
  exact ⟨w2.heap.size, rfl, ⟨World.alloc_heap_new w2 _, RowD.zero _ _, RowG.zero _ _, B2.out.size⟩, below_alloc B2.out _⟩
set_option maxHeartbeats 4000000 in
set_option maxRecDepth 100000 in
theorem new_off (x0 x1 x2 : Int) (w : World) (hG : TabOk w) (hR : rightL x0 x1 x2 = false) :
    Calls Tryd.prog 15 #[.agg #[.int .i64 x0, .int .i64 x1, .int .i64 x2]] w fun e w' => e = .returned (.tuple #[.pointer none, .int .i64 1]) ∧ Below w.heap.size w w' := by
  have HBR := Aside0.mk (fun W hg => body_Right.calls x0 x1 x2 false W hg (by unfold body_Right.f; rw [hR]))
  obtain ⟨w1, hw1⟩ : ∃ w1, w.alloc (.cells #[.int .i64 x0, .int .i64 x1, .int .i64 x2] 23) = w1 := ⟨_, rfl⟩
  have HB1 := Aside0.mk (show Below w.heap.size w w1 by rw [← hw1]; exact below_alloc (Below.refl _ _) _)
  have hl1 : w1.heap[w.heap.size]? = some (.cells #[.int .i64 x0, .int .i64 x1, .int .i64 x2] 23 (0, 0)) := by rw [← hw1]; exact World.alloc_heap_new w _
  have HW1 := Aside0.mk hw1
  have HGT := Aside0.mk (hG.below HB1.out)
  have k0 : w1.cell? ⟨w.heap.size, 0, none⟩ = some (.int .i64 x0) := (blk_cell hl1 0).trans rfl
  have k1 : w1.cell? ⟨w.heap.size, 1, none⟩ = some (.int .i64 x1) := (blk_cell hl1 1).trans rfl
  have k2 : w1.cell? ⟨w.heap.size, 2, none⟩ = some (.int .i64 x2) := (blk_cell hl1 2).trans rfl
  clear hG hl1 hw1 hR
  go_enter Tryd.func15, Tryd.ntmps15
  go_upto_region 1 with (fail)
  rw [HW1.out]
  go_wp2_with fail
  refine (HBR.out w1 HGT.out).mono ?_
  rintro e w2 ⟨rfl, hb2⟩
  have B2 := Aside0.mk (HB1.out.trans (hb2.mono HB1.out.size))
  clear hb2 k0 k1 k2 HW1
  go_wp2
  go_ret2
  exact ⟨rfl, B2.out⟩
def PutE (w : World) (B b e0 e1 e2 : Nat) (X : MSt Fld) (co : Nat) (lv fv : Value) (tk gv : Nat) (er : Int) (e : Ending) (w' : World) : Prop := e = .returned (.tuple #[.slice none 0 0, .int .i64 0, .int .i64 er]) ∧ AtD w' B b e0 e1 e2 X co lv fv tk gv er ∧ Only b w w'
set_option maxHeartbeats 4000000 in
set_option maxRecDepth 100000 in
theorem put_ended (B b e0 e1 e2 : Nat) (X : MSt Fld) (co : Nat) (lv fv : Value) (tk gv : Nat) (er : Int) (A : Option Addr) (n c : Nat) (w : World) (h : AtD w B b e0 e1 e2 X co lv fv tk gv er) (hend : er ≠ 0 ∨ X.place = 11) (hn : n ≤ 1000000) (htk : tk ≤ 1000000) (hgv : gv ≤ 1000000) :
    Calls Tryd.prog 16 #[.pointer (some ⟨b, 0, none⟩), .slice A n c] w (PutE w B b e0 e1 e2 X co lv fv tk gv er) := by
  have HQ := Aside0.mk h
  have k3 := h.c3
  have k12 := h.c12
  have hwt : IntKind.i64.wrap (tk : Int) = (tk : Int) := by
    unfold IntKind.wrap
    simp [IntKind.bits, IntKind.signed]
    omega
  have hwg : IntKind.i64.wrap (gv : Int) = (gv : Int) := by
    unfold IntKind.wrap
    simp [IntKind.bits, IntKind.signed]
    omega
  clear h
  go_enter Tryd.func16, Tryd.ntmps16
  go_wp2_with fail
  refine wp_scope_straight ?_
  go_wp2_with fail
  refine wp_label ?_
  go_wp2_with fail
  go_loopw [4, 5] (fun u4 u5 wr => u4 = .slice none 0 0 ∧ u5 = .int .i64 0 ∧ wr = w) (fun _ _ _ => 0)
  case atStart => exact ⟨rfl, rfl, rfl⟩
  case round =>
    obtain ⟨rfl, rfl, rfl⟩ := hrel
    by_cases hlt : 0 < n
    · have hlt' : (0 : Int) < (n : Int) := by omega
      by_cases he : er = 0
      · subst he
        have hp : X.place = 11 := hend.resolve_left (fun h => h rfl)
        have hpe : ((X.place : Int) != 11) = false := by rw [bne_eq_false_iff_eq]; omega
        have k10 := HQ.out.c10
        have k11 := HQ.out.c11
        have z10 := HQ.out.fz 10
        have z11 := HQ.out.fz 11
        obtain ⟨W4, hW4⟩ : ∃ W4, ((wr.setCell ⟨b, 10, none⟩ (.int .i64 (tk : Int))).setCell ⟨b, 11, none⟩ (.int .i64 (gv : Int))) = W4 := ⟨_, rfl⟩
        have HW4 := Aside0.mk (show AtD W4 B b e0 e1 e2 X co lv fv tk gv 0 by rw [← hW4]; exact (HQ.out.s10 tk).s11 gv)
        have HO4 := Aside0.mk (show Only b wr W4 by rw [← hW4]; exact (Only.set _ _ _).trans (Only.set _ _ _))
        have HE4 := Aside0.mk hW4
        clear hW4
        go_upto_region 14 with (fail)
        rw [HE4.out]
        have k12' := HW4.out.c12
        clear k10 k11 z10 z11 k12 k3 HE4
        go_region_held3 (fun W => W.cell? ⟨b, 12, none⟩ = some (.int .i64 0)) (exact k12') (fail)
        go_wp2
        refine bodyPost_ret (results_tmp3 rfl _ _ _) rfl ?_
        go_simp
        exact ⟨rfl, HW4.out.below (below_drew (Below.refl _ _)), HO4.out.trans (Only.of_below (below_drew (Below.refl _ _)) (Nat.le_of_lt HW4.out.lt))⟩
      · have hee : (er == 0) = false := by rw [beq_eq_false_iff_ne]; exact he
        have k10 := HQ.out.c10
        have k11 := HQ.out.c11
        have z10 := HQ.out.fz 10
        have z11 := HQ.out.fz 11
        obtain ⟨W4, hW4⟩ : ∃ W4, ((wr.setCell ⟨b, 10, none⟩ (.int .i64 (tk : Int))).setCell ⟨b, 11, none⟩ (.int .i64 (gv : Int))) = W4 := ⟨_, rfl⟩
        have HW4 := Aside0.mk (show AtD W4 B b e0 e1 e2 X co lv fv tk gv er by rw [← hW4]; exact (HQ.out.s10 tk).s11 gv)
        have HO4 := Aside0.mk (show Only b wr W4 by rw [← hW4]; exact (Only.set _ _ _).trans (Only.set _ _ _))
        have HE4 := Aside0.mk hW4
        clear hW4
        go_upto_region 14 with (fail)
        rw [HE4.out]
        have k12' := HW4.out.c12
        clear k10 k11 z10 z11 k12 k3 HE4
        go_region_held3 (fun W => W.cell? ⟨b, 12, none⟩ = some (.int .i64 er)) (exact k12') (fail)
        go_wp2
        refine bodyPost_ret (results_tmp3 rfl _ _ _) rfl ?_
        go_simp
        exact ⟨rfl, HW4.out.below (below_drew (Below.refl _ _)), HO4.out.trans (Only.of_below (below_drew (Below.refl _ _)) (Nat.le_of_lt HW4.out.lt))⟩
    · obtain rfl : n = 0 := by omega
      have k10 := HQ.out.c10
      have k11 := HQ.out.c11
      have z10 := HQ.out.fz 10
      have z11 := HQ.out.fz 11
      obtain ⟨W4, hW4⟩ : ∃ W4, ((wr.setCell ⟨b, 10, none⟩ (.int .i64 (tk : Int))).setCell ⟨b, 11, none⟩ (.int .i64 (gv : Int))) = W4 := ⟨_, rfl⟩
      have HW4 := Aside0.mk (show AtD W4 B b e0 e1 e2 X co lv fv tk gv er by rw [← hW4]; exact (HQ.out.s10 tk).s11 gv)
      have HO4 := Aside0.mk (show Only b wr W4 by rw [← hW4]; exact (Only.set _ _ _).trans (Only.set _ _ _))
      have HE4 := Aside0.mk hW4
      clear hW4
      go_upto_region 14 with (fail)
      rw [HE4.out]
      have k12' := HW4.out.c12
      clear k10 k11 z10 z11 k12 k3 HE4
      go_region_held3 (fun W => W.cell? ⟨b, 12, none⟩ = some (.int .i64 er)) (exact k12') (fail)
      go_wp2
      refine bodyPost_ret (results_tmp3 rfl _ _ _) rfl ?_
      go_simp
      exact ⟨rfl, HW4.out.below (below_drew (Below.refl _ _)), HO4.out.trans (Only.of_below (below_drew (Below.refl _ _)) (Nat.le_of_lt HW4.out.lt))⟩
end Go.Proofs.YtmmbpbgcobmifaaDoorH
end
section
namespace Go.Proofs.YtmmbpbgcobmifaaDoor.Pr
end Go.Proofs.YtmmbpbgcobmifaaDoor.Pr
namespace Go.Proofs.YtmmbpbgcobmifaaDoorH
set_option linter.unusedVariables false
set_option linter.unusedSimpArgs false
open Go Go.RowKit Go.Proofs.YtmmbpbgcobmifaaDoorW.PrintWords Go.Proofs.YtmmbpbgcobmifaaDoorW.PrintLast Go.Proofs.YtmmbpbgcobmifaaDoorW.PrintMore Go.Proofs.YtmmbpbgcobmifaaDoor.Pr Go.Proofs.YtmmbpbgcobmifaaDoorM
theorem cell_add {W : World} {b : Nat} {cs : Array Value} {e : TypeId} {fr : Nat × Nat} (h : W.heap[b]? = some (.cells cs e fr)) (j : Nat) : W.cell? ((⟨b, 0, none⟩ : Addr).add j) = cs[j]? := by
  have hb : ((⟨b, 0, none⟩ : Addr).add j) = ⟨b, j, none⟩ := by
    unfold Addr.add
    split
    · rename_i h0; rw [h0]
    · simp
  rw [hb]
  unfold World.cell?
  rw [h]
  rfl
theorem C_new (w : World) (l : List Int) (fr : Nat × Nat) (hl : l.length ≤ 1000000) : Kd.C (Kd.int .u8) (w.alloc (.cells (l.map (Value.int .u8)).toArray 5 fr)) (some ⟨w.heap.size, 0, none⟩) l.length l := by
  refine ⟨rfl, by omega, fun _ => ⟨_, rfl, fun j p hj => ⟨[.int .u8 p], rfl, rfl, fun i u hu => ?_⟩⟩⟩
  match i with
  | 0 =>
    have e : Value.int .u8 p = u := by simpa using hu
    subst e
    rw [show j * (Kd.int .u8).sz + 0 = j by show j * 1 + 0 = j; omega, cell_add (heap_alloc_new w _) j]
    simp [hj]
  | i + 1 => simp at hu
theorem C_lt {w : World} {ad : Addr} {l : List Int} (h : Kd.C (Kd.int .u8) w (some ad) l.length l) (hp : 0 < l.length) : ad.block < w.heap.size := by
  obtain ⟨ad', eA', _, hcell'⟩ := C_u8 h hp
  cases eA'
  have := World.block_lt_of_cell? _ _ (hcell' 0 (l.getD 0 0) (by rw [List.getD_eq_getElem?_getD, List.getElem?_eq_getElem hp]; rfl))
  have hbk : (ad.add 0).block = ad.block := by unfold Addr.add; split <;> rfl
  rwa [hbk] at this
theorem own_new {b k : Nat} (h : Own3 b (.slice none 0 0) (.slice none 0 0) k) : k = b := by
  rcases h with h | h | h
  · exact h
  · simp [Value.ownBlock] at h
  · simp [Value.ownBlock] at h
set_option maxHeartbeats 4000000 in
set_option maxRecDepth 100000 in
theorem wakes9 (w : World) (hG : TabOk w) :
    Calls Tryd.prog 13 #[] w fun e w' => e = .returned (.bool true) ∧ Below w.heap.size w w' := by
  have HN : Calls Tryd.prog 15 #[.agg #[.int .i64 0, .int .i64 0, .int .i64 0]] w fun e w' => ∃ b, e = .returned (.tuple #[.pointer (some ⟨b, 0, none⟩), .int .i64 0]) ∧ AtD w' w.heap.size b 0 0 0 minit 0 (.slice none 0 0) (.slice none 0 0) 0 0 0 ∧ Below w.heap.size w w' := new_on 0 0 0 w hG (by omega) (by omega) (by omega)
  have HG := Aside0.mk (fun (W : World) (h : Below w.heap.size w W) => hG.below h)
  have HNN := Aside0.mk HN
  have hr1 : mrun (envM 0 0 0) minit [51] 0 = (⟨0, 3, 1, 0, 0, [], [], []⟩, 1, 4) := by kernel_rfl
  have hr2 : mrun (envM 0 0 0) (⟨0, 3, 1, 0, 0, [], [], []⟩ : MSt Fld) [13, 10, 97, 98] 0 = (⟨3, 1, 1, 0, 0, [], [97, 98], []⟩, 4, 4) := by kernel_rfl
  have HR1 := Aside0.mk hr1
  have HR2 := Aside0.mk hr2
  clear HN hG hr1 hr2
  go_enter Tryd.func13, Tryd.ntmps13
  go_wp2_with fail
  refine HNN.out.mono ?_
  rintro e w1 ⟨b, rfl, ha1, hb1⟩
  have HA1 := Aside0.mk ha1
  have HB1 := Aside0.mk hb1
  clear ha1 hb1
  go_upto_region 4 with (fail)
  have HAA := Aside0.mk (below_alloc (Below.refl w1.heap.size w1) (.cells #[.int .u8 51] 5 (1, 2)))
  have HP1 := Aside0.mk (put_does w.heap.size b 0 0 0 minit (.slice none 0 0) (.slice none 0 0) 0 0 0 (some ⟨w1.heap.size, 0, none⟩) 1 [51] (w1.alloc (.cells #[.int .u8 51] 5 (1, 2))) (HA1.out.below HAA.out) (fun W hW => HG.out W ((HB1.out.trans (HAA.out.mono HB1.out.size)).trans hW)) (Nat.le_trans HB1.out.size HAA.out.size) invN_init (by decide) (by decide) (by decide) (by decide) (by intro x hx; simp at hx; omega) (C_new w1 [51] (1, 2) (by decide)) (by decide) (fun _ ad e hs => by
    cases e
    have := own_new hs
    have := HA1.out.lt
    dsimp only at *
    omega))
  have hcv := Lib.run_convert_bytes_const (P := Tryd.prog) w1 24 5 #[.int .u8 51] 1 1 Tryd.underlying24 Tryd.underlying5
  go_wp2_with fail
  refine HP1.out.mono ?_
  rintro e w2 ⟨Y, a2, er, out, ov, lv, fv, co, hrun, rfl, hrow, hdat, hat2, hco, hfar, hle, hol, hdis⟩
  rw [HR1.out] at hrun
  cases hrun
  obtain rfl : out = [] := by simpa [minit] using hdat.symm
  obtain rfl : co = 1 := hco rfl
  have HA2 := Aside0.mk (show AtD w2 w.heap.size b 0 0 0 ⟨0, 3, 1, 0, 0, [], [], []⟩ 1 lv fv 1 0 0 from hat2)
  have HF2 := Aside0.mk hfar
  have HB2 := Aside0.mk ((HB1.out.trans (HAA.out.mono HB1.out.size)).trans hfar.b)
  clear hrow hdat hat2 hco hfar hle hol hdis HP1
  go_upto_region 5 with (fail)
  have HAB := Aside0.mk (below_alloc (Below.refl w2.heap.size w2) (.cells #[.int .u8 13, .int .u8 10, .int .u8 97, .int .u8 98] 5 (4, 5)))
  have HP2 := Aside0.mk (put_does w.heap.size b 0 0 0 ⟨0, 3, 1, 0, 0, [], [], []⟩ lv fv 1 0 1 (some ⟨w2.heap.size, 0, none⟩) 4 [13, 10, 97, 98] (w2.alloc (.cells #[.int .u8 13, .int .u8 10, .int .u8 97, .int .u8 98] 5 (4, 5))) (HA2.out.below HAB.out) (fun W hW => HG.out W ((HB2.out.trans (HAB.out.mono HB2.out.size)).trans hW)) (Nat.le_trans HB2.out.size HAB.out.size) ⟨by decide, by decide, by decide, by decide, by decide, by decide, by decide, by decide, by decide, by decide⟩ (by decide) (by decide) (by decide) (by decide) (by intro x hx; simp at hx; omega) (C_new w2 [13, 10, 97, 98] (4, 5) (by decide)) (by decide) (fun _ ad e hs => by
    cases e
    have := HA2.out.own_lt hs
    exact absurd this (Nat.lt_irrefl _)))
  have hcv2 := Lib.run_convert_bytes_const (P := Tryd.prog) w2 24 5 #[.int .u8 13, .int .u8 10, .int .u8 97, .int .u8 98] 4 4 Tryd.underlying24 Tryd.underlying5
  go_wp2_with fail
  refine HP2.out.mono ?_
  rintro e w3 ⟨Y, a3, er, out, ov, lv3, fv3, co, hrun, rfl, hrow, hdat, hat3, hco, hfar, hle, hol, hdis⟩
  rw [HR2.out] at hrun
  cases hrun
  obtain rfl : out = [97, 98] := by simpa using hdat.symm
  obtain ⟨A3, c3, rfl, hc3, hC3⟩ := hrow.reads
  have d1 : (convert 24 9 (.slice A3 2 c3)).run Tryd.prog w3 = .ok (.string ⟨#[97, 98]⟩) w3 := Kd.C_string Tryd.underlying24 Tryd.underlying5 Tryd.underlying9 hC3
  have HA3 := Aside0.mk hat3
  have HL3 := Aside0.mk (left_calls w.heap.size b 0 0 0 _ co lv3 fv3 _ _ _ w3 hat3)
  have HB3 := Aside0.mk ((HB2.out.trans (HAB.out.mono HB2.out.size)).trans hfar.b)
  clear hrow hdat hat3 hco hfar hle hol hdis HP2 hC3
  go_wp2_with fail
  refine HL3.out.mono ?_
  rintro e w4 ⟨rfl, rfl⟩
  go_wp2
  go_ret
  exact ⟨rfl, HB3.out⟩
end Go.Proofs.YtmmbpbgcobmifaaDoorH
end
