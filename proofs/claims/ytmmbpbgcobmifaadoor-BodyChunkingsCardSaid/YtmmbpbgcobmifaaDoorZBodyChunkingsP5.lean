import Derived.Test.YtmmbpbgcobmifaaDoorZBodyChunkingsP4
import Derived.Test.YtmmbpbgcobmifaaDoorZBodyChunkingsP1
import Derived.Test.YtmmbpbgcobmifaaDoorZBodyChunkingsP3
import Derived.RangeFuncFrom
import Derived.RangeFuncWrites
import Derived.RangeFuncBox
import Derived.RangeFuncNested
import Derived.RangeFuncBound
import Derived.RangeFuncCalls
import Derived.RangeFuncLeaves
import Derived.RangeFuncKeeps
import Derived.Shelf.RegionOpen
import Derived.WalkKit
import Derived.OwnWalkIn
import Derived.TacticsInMore
import Derived.LoopNIn
import Derived.LoopIn
import Derived.Laws.EntriesVeiled
import Derived.Laws.NewBlocks
namespace Go.Proofs.YtmmbpbgcobmifaaDoorW.PrintWords
end Go.Proofs.YtmmbpbgcobmifaaDoorW.PrintWords
namespace Go.Proofs.YtmmbpbgcobmifaaDoorW.PrintLast
end Go.Proofs.YtmmbpbgcobmifaaDoorW.PrintLast
namespace Go.Proofs.YtmmbpbgcobmifaaDoorW.PrintMore
end Go.Proofs.YtmmbpbgcobmifaaDoorW.PrintMore
namespace Go.Proofs.YtmmbpbgcobmifaaDoorM
end Go.Proofs.YtmmbpbgcobmifaaDoorM
namespace Go.Proofs.YtmmbpbgcobmifaaDoor.Pr
end Go.Proofs.YtmmbpbgcobmifaaDoor.Pr
namespace Go.Proofs.YtmmbpbgcobmifaaDoorH
end Go.Proofs.YtmmbpbgcobmifaaDoorH
section
namespace Go.Proofs.YtmmbpbgcobmifaaDoorH
open Go Go.RowKit Go.Shelf Go.Proofs.YtmmbpbgcobmifaaDoorW.PrintWords Go.Proofs.YtmmbpbgcobmifaaDoorW.PrintLast Go.Proofs.YtmmbpbgcobmifaaDoorW.PrintMore Go.Proofs.YtmmbpbgcobmifaaDoorM
attribute [local go_sem] Oper.semAt_some
theorem linesB_flat : ∀ r : List Int, (linesB r).flatten = r
  | [] => rfl
  | c :: r => by
    have ih := linesB_flat r
    rw [linesB]
    by_cases hc : c = 10
    · rw [if_pos hc, List.flatten_cons, ih, hc]; rfl
    · rw [if_neg hc]
      cases h : linesB r with
      | nil => rw [h] at ih; rw [← ih]; rfl
      | cons l ls =>
        rw [h] at ih
        rw [← ih]; rfl
theorem linesB_ne : ∀ r : List Int, ∀ l ∈ linesB r, l ≠ []
  | [], l, h => absurd h List.not_mem_nil
  | c :: r, l, h => by
    have ih := linesB_ne r
    rw [linesB] at h
    by_cases hc : c = 10
    · rw [if_pos hc] at h
      rcases List.mem_cons.1 h with rfl | h
      · simp
      · exact ih l h
    · rw [if_neg hc] at h
      cases h2 : linesB r with
      | nil => rw [h2] at h; rcases List.mem_singleton.1 h with rfl; simp
      | cons l2 ls =>
        rw [h2] at h ih
        rcases List.mem_cons.1 h with rfl | h
        · simp
        · exact ih l (List.mem_cons_of_mem _ h)
def sumL (l : List (Option Addr × List Int)) : Nat := (l.map Prod.snd).flatten.length
theorem sumL_snoc (l : List (Option Addr × List Int)) (x : Option Addr × List Int) : sumL (l ++ [x]) = sumL l + x.2.length := by
  unfold sumL; simp
theorem sumL_le {r : List Int} {l : List (Option Addr × List Int)} (h : l.map Prod.snd <+: linesB r) : sumL l ≤ r.length := by
  obtain ⟨q, hq⟩ := h
  have := congrArg (fun z => (List.flatten z).length) hq
  simp only [List.flatten_append, List.length_append, linesB_flat] at this
  unfold sumL
  omega
theorem count_le : ∀ (l : List (List Int)), (∀ x ∈ l, x ≠ []) → l.length ≤ l.flatten.length
  | [], _ => Nat.le_refl _
  | x :: l, h => by
    have := count_le l (fun y hy => h y (List.mem_cons_of_mem _ hy))
    have := List.length_pos_iff.2 (h x List.mem_cons_self)
    simp only [List.length_cons, List.flatten_cons, List.length_append]
    omega
theorem pre_count {r : List Int} {l : List (Option Addr × List Int)} (h : l.map Prod.snd <+: linesB r) : l.length ≤ sumL l := by
  have := count_le (l.map Prod.snd) (fun x hx => linesB_ne r x (h.subset hx))
  rw [List.length_map] at this
  exact this
structure BeyI (w : World) (e0 e1 e2 : Int) (vr va vl vs : Int) (W : World) : Prop where
  r : Boxed W (w.heap.size + 1) 3 (.int .i64 vr)
  a : Boxed W (w.heap.size + 2) 3 (.int .i64 va)
  l : Boxed W (w.heap.size + 3) 3 (.int .i64 vl)
  s : Boxed W (w.heap.size + 4) 3 (.int .i64 vs)
  m : W.heap[w.heap.size]? = some (.cells #[.int .i64 e0, .int .i64 e1, .int .i64 e2] 23 (0, 0))
  b : Below w.heap.size w W
theorem BeyI.grown {w A C : World} {e0 e1 e2 vr va vl vs : Int} {row : Option Nat} (h : BeyI w e0 e1 e2 vr va vl vs A) (hg : A.grownBy C row) (hr : ∀ r, row = some r → w.heap.size + 5 ≤ r) : BeyI w e0 e1 e2 vr va vl vs C :=
  ⟨h.r.kept hg (fun e => by have := hr _ e.symm; omega), h.a.kept hg (fun e => by have := hr _ e.symm; omega), h.l.kept hg (fun e => by have := hr _ e.symm; omega), h.s.kept hg (fun e => by have := hr _ e.symm; omega),
    (hg.block _ (blk_lt h.m) (fun e => by have := hr _ e.symm; omega)).trans h.m, h.b.grown hg (Nat.le_of_lt (blk_lt h.m)) (fun k e => by have := hr _ e; omega)⟩
theorem BeyI.abd {α : Type} {w : World} {Z : Nat → Prop} {B : Nat} (e0 e1 e2 : Int) (vr va vl vs : α → Int) (hB : w.heap.size + 5 ≤ B) (hZ : ∀ r, Z r → w.heap.size + 5 ≤ r) : Abd Z B (fun (x : α) _ W => BeyI w e0 e1 e2 (vr x) (va x) (vl x) (vs x) W) :=
  fun _ _ _ _ _ hs hg hr => hs.grown hg (fun r e => (hr r e).elim (fun h => Nat.le_trans hB h.1) (hZ r))
theorem BeyI.setR {w W : World} {e0 e1 e2 vr va vl vs : Int} (h : BeyI w e0 e1 e2 vr va vl vs W) (v : Int) : BeyI w e0 e1 e2 v va vl vs (W.setCell ⟨w.heap.size + 1, 0, none⟩ (.int .i64 v)) :=
  ⟨h.r.set _, h.a.other (by omega) _, h.l.other (by omega) _, h.s.other (by omega) _, (Below.heap_setCell _ ⟨w.heap.size + 1, 0, none⟩ _ _ (by simp)).trans h.m, h.b.setCell (p := ⟨w.heap.size + 1, 0, none⟩) (by show w.heap.size ≤ w.heap.size + 1; omega) _⟩
theorem BeyI.setA {w W : World} {e0 e1 e2 vr va vl vs : Int} (h : BeyI w e0 e1 e2 vr va vl vs W) (v : Int) : BeyI w e0 e1 e2 vr v vl vs (W.setCell ⟨w.heap.size + 2, 0, none⟩ (.int .i64 v)) :=
  ⟨h.r.other (by omega) _, h.a.set _, h.l.other (by omega) _, h.s.other (by omega) _, (Below.heap_setCell _ ⟨w.heap.size + 2, 0, none⟩ _ _ (by simp)).trans h.m, h.b.setCell (p := ⟨w.heap.size + 2, 0, none⟩) (by show w.heap.size ≤ w.heap.size + 2; omega) _⟩
theorem BeyI.setL {w W : World} {e0 e1 e2 vr va vl vs : Int} (h : BeyI w e0 e1 e2 vr va vl vs W) (v : Int) : BeyI w e0 e1 e2 vr va v vs (W.setCell ⟨w.heap.size + 3, 0, none⟩ (.int .i64 v)) :=
  ⟨h.r.other (by omega) _, h.a.other (by omega) _, h.l.set _, h.s.other (by omega) _, (Below.heap_setCell _ ⟨w.heap.size + 3, 0, none⟩ _ _ (by simp)).trans h.m, h.b.setCell (p := ⟨w.heap.size + 3, 0, none⟩) (by show w.heap.size ≤ w.heap.size + 3; omega) _⟩
theorem BeyI.setS {w W : World} {e0 e1 e2 vr va vl vs : Int} (h : BeyI w e0 e1 e2 vr va vl vs W) (v : Int) : BeyI w e0 e1 e2 vr va vl v (W.setCell ⟨w.heap.size + 4, 0, none⟩ (.int .i64 v)) :=
  ⟨h.r.other (by omega) _, h.a.other (by omega) _, h.l.other (by omega) _, h.s.set _, (Below.heap_setCell _ ⟨w.heap.size + 4, 0, none⟩ _ _ (by simp)).trans h.m, h.b.setCell (p := ⟨w.heap.size + 4, 0, none⟩) (by show w.heap.size ≤ w.heap.size + 4; omega) _⟩
theorem spares_cell {w W2 W : World} (g : Option Nat) (j : Nat) (v : Value) (h1 : 1 ≤ j) (h4 : j ≤ 4) (hW2 : w.heap.size + 6 ≤ W2.heap.size) :
    Spares (fun k => W2.heap.size ≤ k ∨ Kz1 w.heap.size (w.heap.size + 5) k) g g W (W.setCell ⟨w.heap.size + j, 0, none⟩ v) :=
  Spares.turned (grownBy_setCell' W (w.heap.size + j) v) (fun r e hk => by cases e; unfold Kz1 at hk; omega)
theorem beyL_step {e1 e2 : Nat} {ln : List Int} {ls : List (List Int)} {z k : Nat} :
    beyL e1 e2 (ln :: ls) z k = if ln.getD 0 0 = 13 then -1 else if e1 < k + 1 then (z : Int) else if e2 < z + ln.length then (e2 : Int) else beyL e1 e2 ls (z + ln.length) (k + 1) := rfl
def Sofar (e1 e2 : Nat) (pre : List (Option Addr × List Int)) (v : List (List Int) → Int) : Prop := ∀ rest, beyL e1 e2 (pre.map Prod.snd ++ rest) 0 0 = v rest
theorem Sofar.snoc {e1 e2 : Nat} {pre : List (Option Addr × List Int)} {x : Option Addr × List Int} {v : List (List Int) → Int} {S P : Nat} (h : Sofar e1 e2 pre fun rest => beyL e1 e2 rest S P) (hv : ∀ rest, beyL e1 e2 (x.2 :: rest) S P = v rest) : Sofar e1 e2 (pre ++ [x]) v := fun rest => by
  rw [List.map_append, List.append_assoc]
  exact (h _).trans (hv rest)
theorem results_cellB {fn : Func} {p : Tmp} {ty : TypeId} (h : fn.results = #[.cell p ty]) (tmps : Array Value) (P : Program) (w : World) (a : Addr) (v : Value)
    (hp : tmps.getD p undef = .pointer (some a)) (hA : (isAgg ty).run P w = .ok false w) (hc : w.cell? a = some v) : (results fn tmps).run P w = .ok v w := by
  rw [Array.getD_eq_getD_getElem?] at hp
  simp only [results, h]
  simp [Sem.run_bind, Result.andThen, hp, loadVar, hA, asAddr, go_sem, hc]
theorem alloc_keep {w : World} {k : Nat} {o : Obj} (o' : Obj) (h : w.heap[k]? = some o) : (w.alloc o').heap[k]? = some o :=
  ((below_alloc (Below.refl w.heap.size w) o').block k (Array.getElem?_eq_some_iff.1 h).1).trans h
theorem beyond_start (w : World) (e0 e1 e2 : Int) (A : Option Addr) (n c : Nat) :
    ∀ W, W = (((((w.alloc (.cells #[.int .i64 e0, .int .i64 e1, .int .i64 e2] 23)).alloc (.cells #[.int .i64 0] 3)).alloc (.cells #[.int .i64 0] 3)).alloc (.cells #[.int .i64 0] 3)).alloc (.cells #[.int .i64 0] 3)).alloc (.cells #[.slice A n c] 24) →
    W.heap.size = w.heap.size + 6 ∧ BeyI w e0 e1 e2 0 0 0 0 W ∧ Boxed W (w.heap.size + 5) 24 (.slice A n c) := by
  rintro W rfl
  have hs : ∀ (W : World) (o : Obj), (W.alloc o).heap.size = W.heap.size + 1 := fun W o => World.size_alloc W o
  refine ⟨by simp only [hs], ⟨?_, ?_, ?_, ?_, ?_, ?_⟩, ?_⟩
  · exact alloc_keep _ (alloc_keep _ (alloc_keep _ (alloc_keep _ (by have := World.alloc_heap_new (w.alloc (.cells #[.int .i64 e0, .int .i64 e1, .int .i64 e2] 23)) (.cells #[.int .i64 0] 3); rwa [hs] at this))))
  · exact alloc_keep _ (alloc_keep _ (alloc_keep _ (by have := World.alloc_heap_new ((w.alloc (.cells #[.int .i64 e0, .int .i64 e1, .int .i64 e2] 23)).alloc (.cells #[.int .i64 0] 3)) (.cells #[.int .i64 0] 3); rwa [hs, hs] at this)))
  · exact alloc_keep _ (alloc_keep _ (by have := World.alloc_heap_new (((w.alloc (.cells #[.int .i64 e0, .int .i64 e1, .int .i64 e2] 23)).alloc (.cells #[.int .i64 0] 3)).alloc (.cells #[.int .i64 0] 3)) (.cells #[.int .i64 0] 3); rwa [hs, hs, hs] at this))
  · exact alloc_keep _ (by have := World.alloc_heap_new ((((w.alloc (.cells #[.int .i64 e0, .int .i64 e1, .int .i64 e2] 23)).alloc (.cells #[.int .i64 0] 3)).alloc (.cells #[.int .i64 0] 3)).alloc (.cells #[.int .i64 0] 3)) (.cells #[.int .i64 0] 3); rwa [hs, hs, hs, hs] at this)
  · exact alloc_keep _ (alloc_keep _ (alloc_keep _ (alloc_keep _ (alloc_keep _ (World.alloc_heap_new w _)))))
  · exact below_alloc (below_alloc (below_alloc (below_alloc (below_alloc (below_alloc (Below.refl _ _) _) _) _) _) _) _
  · have := World.alloc_heap_new (((((w.alloc (.cells #[.int .i64 e0, .int .i64 e1, .int .i64 e2] 23)).alloc (.cells #[.int .i64 0] 3)).alloc (.cells #[.int .i64 0] 3)).alloc (.cells #[.int .i64 0] 3)).alloc (.cells #[.int .i64 0] 3)) (.cells #[.slice A n c] 24)
    rwa [hs, hs, hs, hs, hs] at this
set_option maxRecDepth 100000 in
set_option maxHeartbeats 4000000 in
theorem beyond_in (n : Nat) (hn : 4 ≤ n) (A : Option Addr) (c : Nat) (r : List Int) (hr : ∀ x ∈ r, 0 ≤ x ∧ x ≤ 255) (hrl : r.length ≤ 1073741824) (hrc : r.length ≤ c) (e0 : Int) (e1 e2 : Nat) (h1 : e1 ≤ 65536) (h2 : e2 ≤ 65536) (w : World) (hC : Kd.C (Kd.int .u8) w A r.length r) :
    CallsIn Fence.wide n Tryd.prog 84 #[.slice A r.length c, .agg #[.int .i64 e0, .int .i64 (e1 : Int), .int .i64 (e2 : Int)]] w fun e w' => e = .returned (.int .i64 (beyL e1 e2 (linesB r) 0 0)) ∧ Below w.heap.size w w' := by
  have hn1 : 1 ≤ n := by omega
  have HC := Aside0.mk hC
  have HR := Aside0.mk hr
  clear hC hr
  have HL := Aside0.mk (fun W => bytesLines_calls A r.length c W)
  refine callsIn_of_wp_marks Tryd.func84 rfl trivial ?_ rfl
  simp only [Tryd.ntmps84, List.size_toArray, List.length_cons, List.length_nil, Nat.reduceAdd, Nat.reduceSub, Array.replicate_succ, Array.replicate_zero, List.push_toArray, List.append_toArray, List.nil_append, List.cons_append]
  gi_wp2
  refine ⟨trivial, ?_⟩
  refine (callsIn_wide.2 (HL.out _)).mono ?_
  rintro e W2 ⟨rfl, hW2⟩
  obtain ⟨hz, hI, hbx⟩ := beyond_start w e0 e1 e2 A r.length c W2 hW2
  have HS := Aside0.mk (blines_own (n - 1) (by omega) (w.heap.size + 5) A c r HR.out hrl hrc w HC.out W2 (Lies.below hI.b) hbx (by omega))
  have HI := Aside0.mk hI
  simp only [World.size_alloc, Nat.add_assoc, Nat.reduceAdd]
  clear hW2 hI hbx HL
  have HZ := Aside0.mk hz
  clear hz
  gi_wp2
  refine wpIn_range_own (F := Fence.wide) rfl rfl hn1 (gf := 104) (lb := #[.pointer (some ⟨w.heap.size + 5, 0, none⟩)]) rfl trivial (enters_of Tryd.func104 (by kernel_rfl) rfl) HS.out (Below.refl _ _) (by rintro q rfl; rw [HZ.out]; omega)
    (by rintro q (h | rfl) <;> rw [HZ.out] <;> omega) (fun _ => rfl) none (fun q e => by cases e)
    (fun pre g W => (g = none ∧ Sofar e1 e2 pre fun rest => beyL e1 e2 rest (sumL pre) pre.length) ∧ BeyI w e0 e1 e2 0 (sumL pre) pre.length (sumL pre) W)
    (fun c pre g W => g = none ∧ ∃ va vl vs v, ((c = .exit 0 ∧ v = 0 ∧ Sofar e1 e2 pre fun _ => -1) ∨ (c = .ret ∧ Sofar e1 e2 pre fun _ => v)) ∧ BeyI w e0 e1 e2 v va vl vs W)
    (Abd.and (Abd.pure _) (BeyI.abd _ _ _ _ _ _ _ (by rw [HZ.out]; omega) (fun q h => by subst h; omega)))
    (fun c s g A C row hs hg hr => by
      obtain ⟨rfl, va, vl, vs, v, hv, hI⟩ := hs
      exact ⟨rfl, va, vl, vs, v, hv, hI.grown hg (fun q e => (hr q e).elim (fun h => by have := HZ.out; omega) (fun h => by subst h; omega))⟩)
    ⟨⟨rfl, fun rest => rfl⟩, HI.out⟩
    (fun pre g W q h e => by rw [h.1.1] at e; cases e) (fun c pre g W q h e => by rw [h.1] at e; cases e)
    (fun x a' _ => a' = { tmps := #[.slice A r.length c, .agg #[.int .i64 e0, .int .i64 (e1 : Int), .int .i64 (e2 : Int)], undef, .pointer (some ⟨w.heap.size, 0, none⟩), .pointer (some ⟨w.heap.size + 1, 0, none⟩), .pointer (some ⟨w.heap.size + 2, 0, none⟩), .pointer (some ⟨w.heap.size + 3, 0, none⟩), .pointer (some ⟨w.heap.size + 4, 0, none⟩),
      .slice x.1 x.2.length x.2.length, .slice A r.length c, .func (.func 104) #[] #[.pointer (some ⟨w.heap.size + 5, 0, none⟩)], .slice x.1 x.2.length x.2.length, undef, undef, undef, undef, undef, undef, undef, undef, undef, undef, undef, undef, undef, undef, undef, undef, undef, undef, undef, undef, undef, undef, undef, undef, undef, undef, undef, undef, undef, undef, undef, undef], defers := [] })
    (fun x a' _ _ _ _ _ h _ _ => h) ?assign ?body ?done ?stop
  case assign =>
    intro l pre x g W K hI hK
    dsimp only [encB]
    gi_wp2
    exact hK _ _ (Spares.refl _ _ _) hI rfl
  case body =>
    rintro l pre ⟨A', ln⟩ g a' W hW2 ⟨⟨rfl, hsf⟩, hI⟩ rfl hsp
    rw [HZ.out] at hW2
    have hpre : pre.map Prod.snd <+: linesB r := by
      refine List.IsPrefix.trans ?_ hsp.1
      rw [List.map_append]
      exact ⟨_, rfl⟩
    have hsum := sumL_le hsp.1
    rw [sumL_snoc] at hsum
    dsimp only at hsum
    have hcnt := pre_count hpre
    have hln0 : ln ≠ [] := linesB_ne r ln (hsp.1.subset (by rw [List.map_append]; exact List.mem_append_right _ (by simp)))
    have hpos : 0 < ln.length := List.length_pos_iff.2 hln0
    obtain ⟨ad, hA', _, hcell⟩ := C_u8 (hsp.2 (A', ln) (List.mem_append_right _ List.mem_cons_self) W (C_lies HC.out (K := fun k => k < w.heap.size) (Lies.below hI.b) (fun k hk => hk))) hpos
    dsimp only at hA' hcell hpos
    subst hA'
    have hx0 := hcell 0 (ln.getD 0 0) (by rw [List.getD_eq_getElem?_getD, List.getElem?_eq_getElem hpos]; rfl)
    have hx1 : W.cell? ad = some (.int .u8 (ln.getD 0 0)) := by simpa [Addr.add] using hx0
    have HBL := Aside0.mk (fun ls : List (List Int) => beyL_step (e1 := e1) (e2 := e2) (ln := ln) (ls := ls) (z := sumL pre) (k := pre.length))
    have HSF := Aside0.mk hsf
    have HII := Aside0.mk hI
    clear hsf hsp hcell hpre
    have hpos' : (0 : Int) < (ln.length : Int) := by omega
    generalize hS : sumL pre = S at *
    generalize ln.getD 0 0 = x at *
    generalize hP : pre.length = P at *
    have kR := HII.out.r.cell
    have kA := HII.out.a.cell
    have kL := HII.out.l.cell
    have kS := HII.out.s.cell
    have kM1 : W.cell? ⟨w.heap.size, 1, none⟩ = some (.int .i64 (e1 : Int)) := (blk_cell HII.out.m 1).trans rfl
    have kM2 : W.cell? ⟨w.heap.size, 2, none⟩ = some (.int .i64 (e2 : Int)) := (blk_cell HII.out.m 2).trans rfl
    have fR := HII.out.r.frozen
    have fA := HII.out.a.frozen
    have fL := HII.out.l.frozen
    have fS := HII.out.s.frozen
    by_cases h13 : x = 13
    · have HV := Aside0.mk (fun ls : List (List Int) => (HBL.out ls).trans (if_pos h13))
      clear HBL
      subst h13
      gi_wp2
      exact ⟨none, Spares.refl _ _ _, rfl, _, _, _, 0, .inl ⟨rfl, rfl, HSF.out.snoc HV.out⟩, HII.out⟩
    · have HBL2 := Aside0.mk (fun ls : List (List Int) => (HBL.out ls).trans (if_neg h13))
      have hne : (x == 13) = false := by rw [beq_eq_false_iff_ne]; exact h13
      clear HBL
      have HL1 := Aside0.mk (HII.out.setL ((P : Int) + 1))
      by_cases hlim : e1 < P + 1
      · have hlim' : (e1 : Int) < (P : Int) + 1 := by omega
        have HV := Aside0.mk (fun ls : List (List Int) => (HBL2.out ls).trans (if_pos hlim))
        clear HBL2 hlim
        have HL2 := Aside0.mk (HL1.out.setR (S : Int))
        gi_wp2
        exact ⟨none, (spares_cell none 3 _ (by omega) (by omega) (Nat.le_of_eq HZ.out.symm)).trans (spares_cell none 1 _ (by omega) (by omega) (Nat.le_of_eq HZ.out.symm)), rfl, _, _, _, _, .inr ⟨rfl, HSF.out.snoc HV.out⟩, HL2.out⟩
      · have hlim' : ¬ (e1 : Int) < (P : Int) + 1 := by omega
        have hlim2 : decide ((e1 : Int) < (P : Int) + 1) = false := decide_eq_false hlim'
        have HBL3 := Aside0.mk (fun ls : List (List Int) => (HBL2.out ls).trans (if_neg hlim))
        clear HBL2 hlim
        by_cases hsz : e2 < S + ln.length
        · have hsz' : (e2 : Int) < (S : Int) + (ln.length : Int) := by omega
          have HV := Aside0.mk (fun ls : List (List Int) => (HBL3.out ls).trans (if_pos hsz))
          clear HBL3 hsz
          have HL2 := Aside0.mk (HL1.out.setR (e2 : Int))
          have hsub : IntKind.i64.wrap ((S : Int) + (e2 : Int)) = (S : Int) + (e2 : Int) := by
            unfold IntKind.wrap
            simp [IntKind.bits, IntKind.signed]
            omega
          have hsub2 : (S : Int) + (e2 : Int) - (S : Int) = (e2 : Int) := by omega
          gi_wp2
          exact ⟨none, (spares_cell none 3 _ (by omega) (by omega) (Nat.le_of_eq HZ.out.symm)).trans (spares_cell none 1 _ (by omega) (by omega) (Nat.le_of_eq HZ.out.symm)), rfl, _, _, _, _, .inr ⟨rfl, HSF.out.snoc HV.out⟩, HL2.out⟩
        · have hsz' : ¬ (e2 : Int) < (S : Int) + (ln.length : Int) := by omega
          have hsz2 : decide ((e2 : Int) < (S : Int) + (ln.length : Int)) = false := decide_eq_false hsz'
          have HV := Aside0.mk (fun ls : List (List Int) => (HBL3.out ls).trans (if_neg hsz))
          clear HBL3 hsz
          have HL2 := Aside0.mk ((HL1.out.setS ((S : Int) + (ln.length : Int))).setA ((S : Int) + (ln.length : Int)))
          have HE1 := Aside0.mk (show ((sumL (pre ++ [(some ad, ln)]) : Nat) : Int) = (S : Int) + (ln.length : Int) by rw [sumL_snoc, hS]; push_cast; rfl)
          have HE2 := Aside0.mk (show (((pre ++ [(some ad, ln)]).length : Nat) : Int) = (P : Int) + 1 by rw [List.length_append, hP]; push_cast; rfl)
          have HE3 := Aside0.mk (show sumL (pre ++ [(some ad, ln)]) = S + ln.length by rw [sumL_snoc, hS])
          have HE4 := Aside0.mk (show (pre ++ [(some ad, ln)]).length = P + 1 by rw [List.length_append, hP]; rfl)
          gi_wp2
          refine ⟨none, ((spares_cell none 3 _ (by omega) (by omega) (Nat.le_of_eq HZ.out.symm)).trans (spares_cell none 4 _ (by omega) (by omega) (Nat.le_of_eq HZ.out.symm))).trans (spares_cell none 2 _ (by omega) (by omega) (Nat.le_of_eq HZ.out.symm)), ⟨rfl, HSF.out.snoc (fun ls => ?_)⟩, ?_⟩
          · rw [HE3.out, HE4.out]
            exact HV.out ls
          · rw [HE1.out, HE2.out]
            exact HL2.out
  case done =>
    rintro D ys g W hD ⟨hys, hyf⟩ ⟨⟨rfl, hsf⟩, hI⟩ hK
    have HV := Aside0.mk (show beyL e1 e2 (linesB r) 0 0 = -1 by
      have := hsf []
      rw [List.append_nil, hys] at this
      rw [this]; rfl)
    have kR := hI.r.cell
    have fR := hI.r.frozen
    have hDz : w.heap.size + 5 ≤ D := by have := HZ.out; omega
    have HK1 := Aside0.mk (show (W.setCell ⟨w.heap.size + 1, 0, none⟩ (.int .i64 (-1))).heap[D]? = some (.deferred (some [])) from (Below.heap_setCell W _ _ D (by show ¬ D = w.heap.size + 1; omega)).trans hK)
    have HR1 := Aside0.mk ((hI.setR (-1)).grown (grownBy_putObj' _ D (.deferred none)) (fun q e => by cases e; exact hDz))
    clear hI hsf hys hyf hK
    gi_wp2
    refine ⟨by simp, .inl ⟨_, _, rfl, run_takeDeferred HK1.out, ?_⟩⟩
    refine ⟨_, results_cellB rfl _ _ _ ⟨w.heap.size + 1, 0, none⟩ (.int .i64 (-1)) rfl (run_isAgg_plain Tryd.underlying3 rfl _) HR1.out.r.cell, ?_⟩
    rw [HV.out]
    exact ⟨rfl, HR1.out.b⟩
  case stop =>
    rintro D c pre g W hD hsp ⟨rfl, va, vl, vs, v, hv, hI⟩ hK
    have hDz : w.heap.size + 5 ≤ D := by have := HZ.out; omega
    obtain ⟨rest, hrest⟩ := hsp.1
    rcases hv with ⟨rfl, rfl, hsf⟩ | ⟨rfl, hsf⟩
    · have HV := Aside0.mk (show beyL e1 e2 (linesB r) 0 0 = -1 by rw [← hrest]; exact hsf rest)
      have kR := hI.r.cell
      have fR := hI.r.frozen
      have HK1 := Aside0.mk (show (W.setCell ⟨w.heap.size + 1, 0, none⟩ (.int .i64 (-1))).heap[D]? = some (.deferred (some [])) from (Below.heap_setCell W _ _ D (by show ¬ D = w.heap.size + 1; omega)).trans hK)
      have HR1 := Aside0.mk ((hI.setR (-1)).grown (grownBy_putObj' _ D (.deferred none)) (fun q e => by cases e; exact hDz))
      clear hI hsf hK hsp hrest
      gi_wp2
      refine ⟨by simp, .inl ⟨_, _, rfl, run_takeDeferred HK1.out, ?_⟩⟩
      refine ⟨_, results_cellB rfl _ _ _ ⟨w.heap.size + 1, 0, none⟩ (.int .i64 (-1)) rfl (run_isAgg_plain Tryd.underlying3 rfl _) HR1.out.r.cell, ?_⟩
      rw [HV.out]
      exact ⟨rfl, HR1.out.b⟩
    · have HV := Aside0.mk (show beyL e1 e2 (linesB r) 0 0 = v by rw [← hrest]; exact hsf rest)
      have HK1 := Aside0.mk hK
      have HR1 := Aside0.mk (hI.grown (grownBy_putObj' _ D (.deferred none)) (fun q e => by cases e; exact hDz))
      clear hI hsf hK hsp hrest
      gi_wp2
      refine ⟨by simp, .inl ⟨_, _, rfl, run_takeDeferred HK1.out, ?_⟩⟩
      refine ⟨_, results_cellB rfl _ _ _ ⟨w.heap.size + 1, 0, none⟩ (.int .i64 v) rfl (run_isAgg_plain Tryd.underlying3 rfl _) HR1.out.r.cell, ?_⟩
      rw [HV.out]
      exact ⟨rfl, HR1.out.b⟩
theorem beyond_calls (A : Option Addr) (c : Nat) (r : List Int) (hr : ∀ x ∈ r, 0 ≤ x ∧ x ≤ 255) (hrl : r.length ≤ 1073741824) (hrc : r.length ≤ c) (e0 : Int) (e1 e2 : Nat) (h1 : e1 ≤ 65536) (h2 : e2 ≤ 65536) (w : World) (hC : Kd.C (Kd.int .u8) w A r.length r) :
    Calls Tryd.prog 84 #[.slice A r.length c, .agg #[.int .i64 e0, .int .i64 (e1 : Int), .int .i64 (e2 : Int)]] w fun e w' => e = .returned (.int .i64 (beyL e1 e2 (linesB r) 0 0)) ∧ Below w.heap.size w w' :=
  callsIn_wide.1 (beyond_in 4 (Nat.le_refl _) A c r hr hrl hrc e0 e1 e2 h1 h2 w hC)
end Go.Proofs.YtmmbpbgcobmifaaDoorH
end
section
namespace Go.Proofs.YtmmbpbgcobmifaaDoorH
open Go.RowKit Go.Proofs.YtmmbpbgcobmifaaDoorW.PrintWords Go.Proofs.YtmmbpbgcobmifaaDoorW.PrintLast Go.Proofs.YtmmbpbgcobmifaaDoorW.PrintMore
def strings_Cut.f (a0 a1 : ByteArray) : Option (ByteArray × ByteArray × Bool) := if a0.size < 4294967281 then some (⟨(Lib.cut a0.data.toList a1.data.toList).1.toArray⟩, ⟨(Lib.cut a0.data.toList a1.data.toList).2.1.toArray⟩, (Lib.cut a0.data.toList a1.data.toList).2.2) else none
theorem strings_Cut.calls (a0 a1 : ByteArray) (r1 r2 : ByteArray) (r3 : Bool) (w : World) (hG : TabOk w) (h : strings_Cut.f a0 a1 = some (r1, r2, r3)) :
    Calls Tryd.prog 90 #[.string a0, .string a1] w fun e w' => e = .returned (.tuple #[.string r1, .string r2, .bool r3]) ∧ Below w.heap.size w w' := by
  unfold strings_Cut.f at h
  split at h
  · rename_i hs
    injection h with h
    injection h with h1 h
    injection h with h2 h3
    subst h1 h2 h3
    obtain ⟨m, hm⟩ := hG.mx
    refine (Tryd.strings_Cut a0 a1 m w hs hm).mono ?_
    rintro e w' ⟨rfl, n, rfl⟩
    exact ⟨rfl, (show Drawn0 w (w.drewN n) from ⟨⟨n, rfl⟩⟩).below⟩
  · cases h
end Go.Proofs.YtmmbpbgcobmifaaDoorH
end
section
namespace Go.Proofs.YtmmbpbgcobmifaaDoorH
open Go.RowKit Go.Shelf Go.Proofs.YtmmbpbgcobmifaaDoorW.PrintWords Go.Proofs.YtmmbpbgcobmifaaDoorW.PrintLast Go.Proofs.YtmmbpbgcobmifaaDoorW.PrintMore
attribute [local go_sem] Oper.semAt_some
def linesOf : Nat → ByteArray → Nat → List (Nat × ByteArray)
  | 0, _, _ => []
  | k + 1, s, i =>
    let c := Lib.cut (s.data.toList.drop i) [13, 10]
    if c.2.2 then (i, ⟨c.1.toArray⟩) :: (if c.1.isEmpty then [] else linesOf k s (i + c.1.length + 2)) else []
theorem linesOf_succ (k : Nat) (s : ByteArray) (i : Nat) : linesOf (k + 1) s i = if (Lib.cut (s.data.toList.drop i) [13, 10]).2.2 = true then (i, ⟨(Lib.cut (s.data.toList.drop i) [13, 10]).1.toArray⟩) :: (if (Lib.cut (s.data.toList.drop i) [13, 10]).1.isEmpty = true then [] else linesOf k s (i + (Lib.cut (s.data.toList.drop i) [13, 10]).1.length + 2)) else [] := rfl
theorem cut_size (t : List UInt8) (h : (Lib.cut t [13, 10]).2.2 = true) : (Lib.cut t [13, 10]).1.length + 2 ≤ t.length := by
  unfold Lib.cut at h ⊢
  split at h
  · rename_i h0
    have h1 := Lib.index_room t [13, 10] h0
    rw [if_pos h0]
    simp only [List.length_take]
    simp at h1
    omega
  · cases h
theorem linesOf_length : ∀ (k : Nat) (s : ByteArray) (i : Nat), (linesOf k s i).length ≤ k
  | 0, _, _ => Nat.le_refl _
  | k + 1, s, i => by
    rw [linesOf_succ]
    split
    · split
      · simp
      · have := linesOf_length k s (i + (Lib.cut (s.data.toList.drop i) [13, 10]).1.length + 2)
        simp only [List.length_cons]; omega
    · simp
theorem linesOf_size : ∀ (k : Nat) (s : ByteArray) (i : Nat), ∀ y ∈ linesOf k s i, y.2.size ≤ s.size
  | 0, _, _, y, h => absurd h List.not_mem_nil
  | k + 1, s, i, y, h => by
    rw [linesOf_succ] at h
    split at h
    · rename_i hc
      rcases List.mem_cons.1 h with rfl | h
      · have h1 := cut_size _ hc
        rw [List.length_drop, ← size_eq_length] at h1
        show (Lib.cut (s.data.toList.drop i) [13, 10]).1.length ≤ _
        omega
      · split at h
        · exact absurd h List.not_mem_nil
        · exact linesOf_size k s _ y h
    · exact absurd h List.not_mem_nil
theorem lines_calls (s : ByteArray) (w : World) :
    Calls Tryd.prog 97 #[.string s] w fun e w' => e = .returned (.func (.func 103) #[] #[.pointer (some ⟨w.heap.size, 0, none⟩)]) ∧ w' = w.alloc (.cells #[.string s] 9) := by
  go_enter Tryd.func97, Tryd.ntmps97
  go_wp2
  go_ret
  exact ⟨rfl, rfl⟩
def encL (x : Nat × ByteArray) : Array Value := #[.int .i64 (x.1 : Int), .string x.2]
set_option maxRecDepth 100000 in
set_option maxHeartbeats 2000000 in
theorem lines_own (n : Nat) (hn : 1 ≤ n) (Bs : Nat) (s : ByteArray) (hs : s.size < 4294967281) (w : World) (hG : TabOk w) (W0 : World) (hw0 : Lies (fun k => k < w.heap.size) w W0) (hc0 : Boxed W0 Bs 9 (.string s)) :
    SeqO Fence.wide n Tryd.prog 103 #[.pointer (some ⟨Bs, 0, none⟩)] encL (fun k => k < w.heap.size ∨ k = Bs) (fun _ => False) (fun ys => ys = linesOf (s.size + 1) s 0) (fun pre => pre <+: linesOf (s.size + 1) s 0) W0 := by
  intro l J Jx g0 W hW hJ hJx hg0 hY h0
  have hw1 : Lies (fun k => k < w.heap.size) w W := hw0.trans (Lies.below hW)
  have hc : Boxed W Bs 9 (.string s) := (hW.block _ hc0.lt).trans hc0
  have hBs := hc.lt
  have hwsz := hw1.size
  clear hW hc0 hw0
  refine callsIn_of_wp Tryd.func103 rfl trivial ?_ rfl
  simp only [Tryd.ntmps103, List.size_toArray, List.length_cons, List.length_nil, Nat.reduceAdd, Nat.reduceSub, Array.replicate_succ, Array.replicate_zero, List.push_toArray, List.append_toArray, List.nil_append, List.cons_append]
  gi_wp2
  gi_loopw [3] (fun v3 wr => ∃ (i k : Nat) (pre : List (Nat × ByteArray)) (g : Option Nat), v3 = .int .i64 i ∧ i ≤ s.size ∧ s.size - i < k ∧ pre.length ≤ i ∧ Aside0 (linesOf (s.size + 1) s 0 = pre ++ linesOf k s i) ∧ Aside0 (J pre g wr) ∧ Aside0 (∀ q, g = some q → ¬ (q < w.heap.size ∨ q = Bs)) ∧ Aside0 (Lies (fun k => k < w.heap.size ∨ k = Bs) W wr))
    (fun v3 _ => s.size - (intOf v3).toNat)
  case atStart => exact ⟨0, s.size + 1, [], g0, rfl, Nat.zero_le _, by omega, Nat.le_refl _, ⟨rfl⟩, ⟨h0⟩, ⟨fun q e => (hg0 q e).1⟩, ⟨Lies.refl _ _⟩⟩
  case round =>
    obtain ⟨i, k, pre, g, rfl, hi, hk, hp, hE, hJs, hgq, hnx⟩ := hrel
    have hcx := (hnx.out.box (.inr rfl) hc).cell
    obtain ⟨m, hm⟩ := (hG.lies hw1 (fun k hk => .inl hk) hnx.out).mx
    have HC := Aside0.mk (Tryd.strings_Cut (s.extract i s.size) (⟨#[13, 10]⟩ : ByteArray) m wr (by
      have := extract_from s i
      have h2 := congrArg List.length this
      rw [← size_eq_length, List.length_drop, ← size_eq_length] at h2
      omega) hm)
    obtain ⟨k, rfl⟩ : ∃ q, k = q + 1 := ⟨k - 1, by omega⟩
    rw [extract_from, show (⟨#[13, 10]⟩ : ByteArray).data.toList = [13, 10] from rfl] at HC
    have hcs := cut_size (s.data.toList.drop i)
    have HE := Aside0.mk hE.out
    rw [linesOf_succ k s i] at HE
    rw [List.length_drop, ← size_eq_length] at hcs
    clear hE hm
    obtain ⟨c, hcut⟩ : ∃ c, Lib.cut (s.data.toList.drop i) [13, 10] = c := ⟨_, rfl⟩
    rw [hcut] at HC hcs HE
    clear hcut
    obtain ⟨a, b, ok⟩ := c
    dsimp only at HC HE hcs
    have hdr : ∀ q : Nat, wr.grownBy (wr.drewN q) none := fun q => ⟨rfl, rfl, rfl, Nat.le_refl _, fun _ _ _ => rfl⟩
    have HDR := Aside0.mk hdr
    clear hdr
    cases ok with
    | false =>
      rw [if_neg (by simp), List.append_nil] at HE
      gi_wp2
      refine ⟨trivial, ?_⟩
      refine (callsIn_wide.2 HC.out).mono ?_
      rintro e w1 ⟨rfl, q, rfl⟩
      have hJ1 := Aside0.mk (hJ.step hJs.out (HDR.out q))
      gi_wp2
      refine ⟨fun _ h => (by cases h), ?_⟩
      gi_wp2
      refine bodyPost_ret (results_none rfl _ _ _) rfl ?_
      exact ⟨⟨_, rfl⟩, .inl ⟨_, g, rfl, by rw [HE.out]; exact hJ1.out⟩⟩
    | true =>
      rw [if_pos rfl] at HE
      gi_wp2
      refine ⟨trivial, ?_⟩
      refine (callsIn_wide.2 HC.out).mono ?_
      rintro e w1 ⟨rfl, q, rfl⟩
      have hJ1 : J pre g (wr.drewN q) := hJ.step hJs.out (HDR.out q)
      have HL := Aside0.mk (hnx.out.trans (Lies.grown (HDR.out q) (fun _ e => by cases e)))
      have HP := Aside0.mk (show (pre ++ [((i, ⟨a.toArray⟩) : Nat × ByteArray)]) <+: linesOf (s.size + 1) s 0 by rw [HE.out]; exact ⟨_, by rw [List.append_assoc]; rfl⟩)
      obtain ⟨fn, tmps, assign, body, hy, hR⟩ := hY (n - 1) pre (i, ⟨a.toArray⟩) g (wr.drewN q) hJ1 HP.out
      dsimp only [encL] at hy
      have HR := Aside0.mk hR
      have HLS := Aside0.mk (fun (g' : Option Nat) (W3 : World) (h : Spares (fun k => W.heap.size ≤ k ∨ (k < w.heap.size ∨ k = Bs)) g g' (wr.drewN q) W3) =>
        show Lies (fun k => k < w.heap.size ∨ k = Bs) W W3 from HL.out.trans (h.lies (fun k hk _ => ⟨.inr hk, fun e => hgq.out k e.symm hk⟩)))
      have HGS := Aside0.mk (fun (g' : Option Nat) (W3 : World) (h : Spares (fun k => W.heap.size ≤ k ∨ (k < w.heap.size ∨ k = Bs)) g g' (wr.drewN q) W3) =>
        show ∀ q, g' = some q → ¬ (q < w.heap.size ∨ q = Bs) from h.not (fun k hk => by have := HL.out.size; rcases hk with hk | hk <;> omega) hgq.out)
      have e0 : (⟨a.toArray⟩ : ByteArray).size = a.length := rfl
      have hcs := hcs trivial
      clear hJ1 hR HL hgq
      cases a with
      | nil =>
        have HE2 := Aside0.mk (show linesOf (s.size + 1) s 0 = pre ++ [((i, ⟨([] : List UInt8).toArray⟩) : Nat × ByteArray)] by rw [HE.out]; rfl)
        gi_wp2
        refine HR.out.mono ?_
        rintro e W3 ⟨g', hsp, (⟨rfl, hJ3⟩ | ⟨rfl, hJx3⟩)⟩
        · gi_wp2
          refine bodyPost_ret (results_none rfl _ _ _) rfl ?_
          exact ⟨⟨_, rfl⟩, .inl ⟨_, g', rfl, by rw [HE2.out]; exact hJ3⟩⟩
        · gi_wp2
          refine bodyPost_ret (results_none rfl _ _ _) rfl ?_
          exact ⟨⟨_, rfl⟩, .inr ⟨_, g', HP.out, hJx3⟩⟩
      | cons c a =>
        have HE2 := Aside0.mk (show linesOf (s.size + 1) s 0 = (pre ++ [((i, ⟨(c :: a).toArray⟩) : Nat × ByteArray)]) ++ linesOf k s (i + (a.length + 3)) by rw [HE.out, List.append_assoc]; rfl)
        have hcs2 : a.length + 3 ≤ s.size - i := by simp only [List.length_cons] at hcs; omega
        have hne : ((⟨(c :: a).toArray⟩ : ByteArray).toList == ([] : List UInt8)) = false := by rw [ByteArray.toList_eq]; rfl
        have hne2 : ((⟨(c :: a).toArray⟩ : ByteArray).toList = ([] : List UInt8)) = False := by rw [ByteArray.toList_eq]; simp
        gi_wp2
        refine HR.out.mono ?_
        rintro e W3 ⟨g', hsp, (⟨rfl, hJ3⟩ | ⟨rfl, hJx3⟩)⟩
        · have HJ3 := Aside0.mk hJ3
          have HS3 := Aside0.mk hsp
          clear hJ3 hsp
          have hcx3 := ((HLS.out g' W3 HS3.out).box (.inr rfl) hc).cell
          gi_wp2
          go_roundw
          case rel => exact ⟨i + (a.length + 3), k, _, g', congrArg (Value.int IntKind.i64) (by omega), by omega, by omega, by rw [List.length_append]; simp only [List.length_cons, List.length_nil]; omega, HE2, HJ3, ⟨HGS.out g' W3 HS3.out⟩, ⟨HLS.out g' W3 HS3.out⟩⟩
          case measure => simp [intOf]; omega
        · gi_wp2
          refine bodyPost_ret (results_none rfl _ _ _) rfl ?_
          exact ⟨⟨_, rfl⟩, .inr ⟨_, g', HP.out, hJx3⟩⟩
end Go.Proofs.YtmmbpbgcobmifaaDoorH
end
section
namespace Go.Proofs.YtmmbpbgcobmifaaDoorH
open Go.RowKit Go.Proofs.YtmmbpbgcobmifaaDoorW.PrintWords Go.Proofs.YtmmbpbgcobmifaaDoorW.PrintLast Go.Proofs.YtmmbpbgcobmifaaDoorW.PrintMore
theorem take_one {α : Type} (l : List α) (d : α) (k : Nat) (h : k < l.length) : l.take (k + 1) = l.take k ++ [l.getD k d] := by
  rw [List.take_succ_eq_append_getElem h]
  simp [List.getD_eq_getElem?_getD, h]
theorem mem_getD {α : Type} (l : List α) (d : α) (k : Nat) (h : k < l.length) : l.getD k d ∈ l := by
  rw [List.getD_eq_getElem?_getD, List.getElem?_eq_getElem h]
  exact List.getElem_mem h
end Go.Proofs.YtmmbpbgcobmifaaDoorH
end
section
namespace Go.Proofs.YtmmbpbgcobmifaaDoorH
open Go.RowKit Go.Proofs.YtmmbpbgcobmifaaDoorW.PrintWords Go.Proofs.YtmmbpbgcobmifaaDoorW.PrintLast Go.Proofs.YtmmbpbgcobmifaaDoorW.PrintMore
def alikeB (a b : ByteArray) : Bool := decide (smallS a = smallS b)
end Go.Proofs.YtmmbpbgcobmifaaDoorH
end
section
namespace Go.Proofs.YtmmbpbgcobmifaaDoor.Pr
end Go.Proofs.YtmmbpbgcobmifaaDoor.Pr
namespace Go.Proofs.YtmmbpbgcobmifaaDoorH
open Go.RowKit Go.Proofs.YtmmbpbgcobmifaaDoorW.PrintWords Go.Proofs.YtmmbpbgcobmifaaDoorW.PrintLast Go.Proofs.YtmmbpbgcobmifaaDoorW.PrintMore Go.Proofs.YtmmbpbgcobmifaaDoor.Pr
def isB (x : S53) (n : ByteArray) : Bool := alikeB x.f0 n
def fitF (l : List S53) : Bool := l.all fun x => decide (x.f0.size ≤ 140737488355328)
def getL (l : List S53) (n : ByteArray) : List ByteArray := (l.filter fun x => isB x n).map fun x => x.f1
def field_Get.f (l0 : List S53) (a1 : ByteArray) : Option (List ByteArray) := if (decide (l0.length < 8796093022208) && fitF l0 && decide (a1.size ≤ 140737488355328)) = true then some (getL l0 a1) else none
def fitS (l : List ByteArray) : Bool := l.all fun x => decide (x.size ≤ 140737488355328)
def namedB (names : List ByteArray) (x : S53) : Bool := names.any fun n => isB x n
def withoutL (l : List S53) (names : List ByteArray) : List S53 := l.filter fun x => !(namedB names x)
def field_Without.f (l0 : List S53) (l1 : List ByteArray) : Option (List S53) := if (decide (l0.length < 4398046511104) && fitF l0 && decide (l1.length < 8796093022208) && fitS l1) = true then some (withoutL l0 l1) else none
end Go.Proofs.YtmmbpbgcobmifaaDoorH
end
section
namespace Go.Proofs.YtmmbpbgcobmifaaDoor.Pr
end Go.Proofs.YtmmbpbgcobmifaaDoor.Pr
namespace Go.Proofs.YtmmbpbgcobmifaaDoorH
open Go.RowKit Go.Proofs.YtmmbpbgcobmifaaDoorW.PrintWords Go.Proofs.YtmmbpbgcobmifaaDoorW.PrintLast Go.Proofs.YtmmbpbgcobmifaaDoorW.PrintMore Go.Proofs.YtmmbpbgcobmifaaDoor.Pr
abbrev Fld := S53
def sumF (l : List Fld) : Nat := (l.map fun x => x.f0.size + x.f1.size + 1).sum
theorem sumF_cons (x : Fld) (l : List Fld) : sumF (x :: l) = (x.f0.size + x.f1.size + 1) + sumF l := by simp [sumF]
theorem sumF_length : ∀ l : List Fld, l.length ≤ sumF l
  | [] => Nat.le_refl _
  | x :: l => by
    have := sumF_length l
    rw [sumF_cons, List.length_cons]
    omega
theorem sumF_at : ∀ (l : List Fld) (x : Fld), x ∈ l → x.f0.size + x.f1.size + 1 ≤ sumF l
  | y :: l, x, h => by
    rw [sumF_cons]
    rcases List.mem_cons.1 h with rfl | h
    · omega
    · have := sumF_at l x h
      omega
end Go.Proofs.YtmmbpbgcobmifaaDoorH
end
section
namespace Go.Proofs.YtmmbpbgcobmifaaDoor.Pr
open Go.RowKit Go.Proofs.YtmmbpbgcobmifaaDoorH Go.Proofs.YtmmbpbgcobmifaaDoorW.PrintWords Go.Proofs.YtmmbpbgcobmifaaDoorW.PrintLast Go.Proofs.YtmmbpbgcobmifaaDoorW.PrintMore
attribute [local go_sem] max2_int min2_int max_two min_two max_three min_three max_four min_four   -- for this text's walks alone
set_option linter.unusedVariables false
set_option linter.unusedSimpArgs false
def catchpitref02_blank.f (a0 : Int) : Option (Bool) := if a0 = 32 then (some true) else (some (a0 == 9))
end Go.Proofs.YtmmbpbgcobmifaaDoor.Pr
end
section
namespace Go.Proofs.YtmmbpbgcobmifaaDoor.Pr
open Go.RowKit Go.Proofs.YtmmbpbgcobmifaaDoorH Go.Proofs.YtmmbpbgcobmifaaDoorW.PrintWords Go.Proofs.YtmmbpbgcobmifaaDoorW.PrintLast Go.Proofs.YtmmbpbgcobmifaaDoorW.PrintMore
attribute [local go_sem] max2_int min2_int max_two min_two max_three min_three max_four min_four   -- for this text's walks alone
set_option linter.unusedVariables false
set_option linter.unusedSimpArgs false
mutual
def catchpitref02_Trim.j1 : Nat → ByteArray → Option (ByteArray)
  | 0, _ => none
  | k + 1, x0 => catchpitref02_Trim.l1 k x0
def catchpitref02_Trim.l1 : Nat → ByteArray → Option (ByteArray)
  | 0, _ => none
  | k + 1, x0 => if (x0.size : Int) > 0 then (if 0 ≤ (wrap64 ((x0.size : Int) - 1)) then (if (wrap64 ((x0.size : Int) - 1)) < (x0.size : Int) then ((catchpitref02_blank.f (bt x0 (wrap64 ((x0.size : Int) - 1)))).bind fun t105 => (if t105 = true then (if (wrap64 ((x0.size : Int) - 1)) ≤ (x0.size : Int) then (catchpitref02_Trim.l1 k (x0.extract 0 ((wrap64 ((x0.size : Int) - 1)) : Int).toNat)) else (none)) else (some x0))) else (none)) else (none)) else (some x0)
def catchpitref02_Trim.l0 : Nat → ByteArray → Option (ByteArray)
  | 0, _ => none
  | k + 1, x0 => if (x0.size : Int) > 0 then (if 0 < (x0.size : Int) then ((catchpitref02_blank.f (bt x0 0)).bind fun t104 => (if t104 = true then (if 1 ≤ (x0.size : Int) then (catchpitref02_Trim.l0 k (x0.extract 1 x0.size)) else (none)) else (catchpitref02_Trim.j1 k x0))) else (none)) else (catchpitref02_Trim.j1 k x0)
end
def catchpitref02_Trim.f (k : Nat) (a0 : ByteArray) : Option (ByteArray) := catchpitref02_Trim.l0 k a0
theorem catchpitref02_Trim.mono_l : ∀ k, (∀ y0, LeO (catchpitref02_Trim.j1 k y0) (catchpitref02_Trim.j1 (k + 1) y0)) ∧ (∀ y0, LeO (catchpitref02_Trim.l1 k y0) (catchpitref02_Trim.l1 (k + 1) y0)) ∧ (∀ y0, LeO (catchpitref02_Trim.l0 k y0) (catchpitref02_Trim.l0 (k + 1) y0))
  | 0 => ⟨fun _ r h => by simp [catchpitref02_Trim.j1] at h, fun _ r h => by simp [catchpitref02_Trim.l1] at h, fun _ r h => by simp [catchpitref02_Trim.l0] at h⟩
  | k + 1 => by
    obtain ⟨ih0, ih1, ih2⟩ := catchpitref02_Trim.mono_l k
    refine ⟨?_, ?_, ?_⟩
    · intro y0
      unfold catchpitref02_Trim.j1
      repeat' first
      | (with_reducible exact ih0 _)
      | (with_reducible exact ih1 _)
      | (with_reducible exact ih2 _)
      | (with_reducible exact LeO.refl _)
      | (with_reducible exact LeO.none _)
      | (with_reducible refine LeO.ite ?_ ?_)
      | (with_reducible refine LeO.bind ?_ (fun _ => ?_))
      | exact ih0 _
      | exact ih1 _
      | exact ih2 _
      | exact LeO.none _
      | refine LeO.ite ?_ ?_
      | refine LeO.bind ?_ (fun _ => ?_)
    · intro y0
      unfold catchpitref02_Trim.l1
      repeat' first
      | (with_reducible exact ih0 _)
      | (with_reducible exact ih1 _)
      | (with_reducible exact ih2 _)
      | (with_reducible exact LeO.refl _)
      | (with_reducible exact LeO.none _)
      | (with_reducible refine LeO.ite ?_ ?_)
      | (with_reducible refine LeO.bind ?_ (fun _ => ?_))
      | exact ih0 _
      | exact ih1 _
      | exact ih2 _
      | exact LeO.none _
      | refine LeO.ite ?_ ?_
      | refine LeO.bind ?_ (fun _ => ?_)
    · intro y0
      unfold catchpitref02_Trim.l0
      repeat' first
      | (with_reducible exact ih0 _)
      | (with_reducible exact ih1 _)
      | (with_reducible exact ih2 _)
      | (with_reducible exact LeO.refl _)
      | (with_reducible exact LeO.none _)
      | (with_reducible refine LeO.ite ?_ ?_)
      | (with_reducible refine LeO.bind ?_ (fun _ => ?_))
      | exact ih0 _
      | exact ih1 _
      | exact ih2 _
      | exact LeO.none _
      | refine LeO.ite ?_ ?_
      | refine LeO.bind ?_ (fun _ => ?_)
theorem catchpitref02_Trim.mono : ∀ a0 k, LeO (catchpitref02_Trim.f k a0) (catchpitref02_Trim.f (k + 1) a0) := by
  intro a0 k
  obtain ⟨ih0, ih1, ih2⟩ := catchpitref02_Trim.mono_l k
  unfold catchpitref02_Trim.f
  repeat' first
      | (with_reducible exact ih0 _)
      | (with_reducible exact ih1 _)
      | (with_reducible exact ih2 _)
      | (with_reducible exact LeO.refl _)
      | (with_reducible exact LeO.none _)
      | (with_reducible refine LeO.ite ?_ ?_)
      | (with_reducible refine LeO.bind ?_ (fun _ => ?_))
      | exact ih0 _
      | exact ih1 _
      | exact ih2 _
      | exact LeO.none _
      | refine LeO.ite ?_ ?_
      | refine LeO.bind ?_ (fun _ => ?_)
end Go.Proofs.YtmmbpbgcobmifaaDoor.Pr
end
section
namespace Go.Proofs.YtmmbpbgcobmifaaDoor.Pr
open Go.RowKit Go.Proofs.YtmmbpbgcobmifaaDoorH Go.Proofs.YtmmbpbgcobmifaaDoorW.PrintWords Go.Proofs.YtmmbpbgcobmifaaDoorW.PrintLast Go.Proofs.YtmmbpbgcobmifaaDoorW.PrintMore
attribute [local go_sem] max2_int min2_int max_two min_two max_three min_three max_four min_four   -- for this text's walks alone
set_option linter.unusedVariables false
set_option linter.unusedSimpArgs false
def catchpitref02_token.j0 : Nat → Int → Bool → Option (Bool)
  | 0, _, _ => none
  | k + 1, x0, x24 => if x24 = true then (some true) else (if x0 = 33 then (some true) else (if x0 = 35 then (some true) else (if x0 = 36 then (some true) else (if x0 = 37 then (some true) else (if x0 = 38 then (some true) else (if x0 = 39 then (some true) else (if x0 = 42 then (some true) else (if x0 = 43 then (some true) else (if x0 = 45 then (some true) else (if x0 = 46 then (some true) else (if x0 = 94 then (some true) else (if x0 = 95 then (some true) else (if x0 = 96 then (some true) else (if x0 = 124 then (some true) else (if x0 = 126 then (some true) else (some false))))))))))))))))
def catchpitref02_token.f (k : Nat) (a0 : Int) : Option (Bool) := if a0 ≥ 97 then (if a0 ≤ 122 then (catchpitref02_token.j0 k a0 true) else (if a0 ≥ 65 then (if a0 ≤ 90 then (catchpitref02_token.j0 k a0 true) else (if a0 ≥ 48 then (catchpitref02_token.j0 k a0 (decide (a0 ≤ 57))) else (catchpitref02_token.j0 k a0 false))) else (if a0 ≥ 48 then (catchpitref02_token.j0 k a0 (decide (a0 ≤ 57))) else (catchpitref02_token.j0 k a0 false)))) else (if a0 ≥ 65 then (if a0 ≤ 90 then (catchpitref02_token.j0 k a0 true) else (if a0 ≥ 48 then (catchpitref02_token.j0 k a0 (decide (a0 ≤ 57))) else (catchpitref02_token.j0 k a0 false))) else (if a0 ≥ 48 then (catchpitref02_token.j0 k a0 (decide (a0 ≤ 57))) else (catchpitref02_token.j0 k a0 false)))
theorem catchpitref02_token.mono_l : ∀ k, (∀ y0 y1, LeO (catchpitref02_token.j0 k y0 y1) (catchpitref02_token.j0 (k + 1) y0 y1))
  | 0 => fun _ _ r h => by simp [catchpitref02_token.j0] at h
  | k + 1 => by
    have ih0 := catchpitref02_token.mono_l k
    · intro y0 y1
      unfold catchpitref02_token.j0
      repeat' first
      | (with_reducible exact ih0 _ _)
      | (with_reducible exact LeO.refl _)
      | (with_reducible exact LeO.none _)
      | (with_reducible refine LeO.ite ?_ ?_)
      | (with_reducible refine LeO.bind ?_ (fun _ => ?_))
      | exact ih0 _ _
      | exact LeO.none _
      | refine LeO.ite ?_ ?_
      | refine LeO.bind ?_ (fun _ => ?_)
theorem catchpitref02_token.mono : ∀ a0 k, LeO (catchpitref02_token.f k a0) (catchpitref02_token.f (k + 1) a0) := by
  intro a0 k
  have ih0 := catchpitref02_token.mono_l k
  unfold catchpitref02_token.f
  repeat' first
      | (with_reducible exact ih0 _ _)
      | (with_reducible exact LeO.refl _)
      | (with_reducible exact LeO.none _)
      | (with_reducible refine LeO.ite ?_ ?_)
      | (with_reducible refine LeO.bind ?_ (fun _ => ?_))
      | exact ih0 _ _
      | exact LeO.none _
      | refine LeO.ite ?_ ?_
      | refine LeO.bind ?_ (fun _ => ?_)
end Go.Proofs.YtmmbpbgcobmifaaDoor.Pr
end
section
namespace Go.Proofs.YtmmbpbgcobmifaaDoor.Pr
open Go.RowKit Go.Proofs.YtmmbpbgcobmifaaDoorH Go.Proofs.YtmmbpbgcobmifaaDoorW.PrintWords Go.Proofs.YtmmbpbgcobmifaaDoorW.PrintLast Go.Proofs.YtmmbpbgcobmifaaDoorW.PrintMore
attribute [local go_sem] max2_int min2_int max_two min_two max_three min_three max_four min_four   -- for this text's walks alone
set_option linter.unusedVariables false
set_option linter.unusedSimpArgs false
def catchpitref02_Token.l0 : Nat → ByteArray → Int → Option (Bool)
  | 0, _, _ => none
  | k + 1, x0, x3 => if x3 < (x0.size : Int) then (if 0 ≤ x3 then ((catchpitref02_token.f k (bt x0 x3)).bind fun t102 => (if t102 = true then (catchpitref02_Token.l0 k x0 (wrap64 (x3 + 1))) else (some false))) else (none)) else (some (decide ((x0.size : Int) > 0)))
def catchpitref02_Token.f (k : Nat) (a0 : ByteArray) : Option (Bool) := catchpitref02_Token.l0 k a0 0
theorem catchpitref02_Token.mono_l : ∀ k, (∀ y0 y1, LeO (catchpitref02_Token.l0 k y0 y1) (catchpitref02_Token.l0 (k + 1) y0 y1))
  | 0 => fun _ _ r h => by simp [catchpitref02_Token.l0] at h
  | k + 1 => by
    have ih0 := catchpitref02_Token.mono_l k
    · intro y0 y1
      unfold catchpitref02_Token.l0
      repeat' first
      | (with_reducible exact ih0 _ _)
      | (with_reducible exact catchpitref02_token.mono _ _)
      | (with_reducible exact LeO.refl _)
      | (with_reducible exact LeO.none _)
      | (with_reducible refine LeO.ite ?_ ?_)
      | (with_reducible refine LeO.bind ?_ (fun _ => ?_))
      | exact ih0 _ _
      | exact catchpitref02_token.mono _ _
      | exact LeO.none _
      | refine LeO.ite ?_ ?_
      | refine LeO.bind ?_ (fun _ => ?_)
theorem catchpitref02_Token.mono : ∀ a0 k, LeO (catchpitref02_Token.f k a0) (catchpitref02_Token.f (k + 1) a0) := by
  intro a0 k
  have ih0 := catchpitref02_Token.mono_l k
  unfold catchpitref02_Token.f
  repeat' first
      | (with_reducible exact ih0 _ _)
      | (with_reducible exact catchpitref02_token.mono _ _)
      | (with_reducible exact LeO.refl _)
      | (with_reducible exact LeO.none _)
      | (with_reducible refine LeO.ite ?_ ?_)
      | (with_reducible refine LeO.bind ?_ (fun _ => ?_))
      | exact ih0 _ _
      | exact catchpitref02_token.mono _ _
      | exact LeO.none _
      | refine LeO.ite ?_ ?_
      | refine LeO.bind ?_ (fun _ => ?_)
end Go.Proofs.YtmmbpbgcobmifaaDoor.Pr
end
section
namespace Go.Proofs.YtmmbpbgcobmifaaDoor.Pr
open Go.RowKit Go.Proofs.YtmmbpbgcobmifaaDoorH Go.Proofs.YtmmbpbgcobmifaaDoorW.PrintWords Go.Proofs.YtmmbpbgcobmifaaDoorW.PrintLast Go.Proofs.YtmmbpbgcobmifaaDoorW.PrintMore
attribute [local go_sem] max2_int min2_int max_two min_two max_three min_three max_four min_four   -- for this text's walks alone
set_option linter.unusedVariables false
set_option linter.unusedSimpArgs false
def catchpitref02_Byte.f (a0 : Int) : Option (Bool) := if a0 = 9 then (some true) else (if a0 ≥ 32 then (if a0 ≤ 126 then (some true) else (some (decide (a0 ≥ 128)))) else (some (decide (a0 ≥ 128))))
end Go.Proofs.YtmmbpbgcobmifaaDoor.Pr
end
section
namespace Go.Proofs.YtmmbpbgcobmifaaDoor.Pr
open Go.RowKit Go.Proofs.YtmmbpbgcobmifaaDoorH Go.Proofs.YtmmbpbgcobmifaaDoorW.PrintWords Go.Proofs.YtmmbpbgcobmifaaDoorW.PrintLast Go.Proofs.YtmmbpbgcobmifaaDoorW.PrintMore
attribute [local go_sem] max2_int min2_int max_two min_two max_three min_three max_four min_four   -- for this text's walks alone
set_option linter.unusedVariables false
set_option linter.unusedSimpArgs false
def catchpitref02_Text.l0 : Nat → ByteArray → Int → Option (Bool)
  | 0, _, _ => none
  | k + 1, x0, x3 => if x3 < (x0.size : Int) then (if 0 ≤ x3 then ((catchpitref02_Byte.f (bt x0 x3)).bind fun t103 => (if t103 = true then (catchpitref02_Text.l0 k x0 (wrap64 (x3 + 1))) else (some false))) else (none)) else (some true)
def catchpitref02_Text.f (k : Nat) (a0 : ByteArray) : Option (Bool) := catchpitref02_Text.l0 k a0 0
theorem catchpitref02_Text.mono_l : ∀ k, (∀ y0 y1, LeO (catchpitref02_Text.l0 k y0 y1) (catchpitref02_Text.l0 (k + 1) y0 y1))
  | 0 => fun _ _ r h => by simp [catchpitref02_Text.l0] at h
  | k + 1 => by
    have ih0 := catchpitref02_Text.mono_l k
    · intro y0 y1
      unfold catchpitref02_Text.l0
      repeat' first
      | (with_reducible exact ih0 _ _)
      | (with_reducible exact LeO.refl _)
      | (with_reducible exact LeO.none _)
      | (with_reducible refine LeO.ite ?_ ?_)
      | (with_reducible refine LeO.bind ?_ (fun _ => ?_))
      | exact ih0 _ _
      | exact LeO.none _
      | refine LeO.ite ?_ ?_
      | refine LeO.bind ?_ (fun _ => ?_)
theorem catchpitref02_Text.mono : ∀ a0 k, LeO (catchpitref02_Text.f k a0) (catchpitref02_Text.f (k + 1) a0) := by
  intro a0 k
  have ih0 := catchpitref02_Text.mono_l k
  unfold catchpitref02_Text.f
  repeat' first
      | (with_reducible exact ih0 _ _)
      | (with_reducible exact LeO.refl _)
      | (with_reducible exact LeO.none _)
      | (with_reducible refine LeO.ite ?_ ?_)
      | (with_reducible refine LeO.bind ?_ (fun _ => ?_))
      | exact ih0 _ _
      | exact LeO.none _
      | refine LeO.ite ?_ ?_
      | refine LeO.bind ?_ (fun _ => ?_)
end Go.Proofs.YtmmbpbgcobmifaaDoor.Pr
end
section
namespace Go.Proofs.YtmmbpbgcobmifaaDoor.Pr
open Go.RowKit Go.Proofs.YtmmbpbgcobmifaaDoorH Go.Proofs.YtmmbpbgcobmifaaDoorW.PrintWords Go.Proofs.YtmmbpbgcobmifaaDoorW.PrintLast Go.Proofs.YtmmbpbgcobmifaaDoorW.PrintMore
attribute [local go_sem] max2_int min2_int max_two min_two max_three min_three max_four min_four   -- for this text's walks alone
set_option linter.unusedVariables false
set_option linter.unusedSimpArgs false
def catchpitref02_Value.f (k : Nat) (a0 : ByteArray) : Option (Bool) := (catchpitref02_Text.f k a0).bind fun t282 => (if t282 = true then (if (a0.size : Int) = 0 then (some true) else (if 0 < (a0.size : Int) then ((catchpitref02_blank.f (bt a0 0)).bind fun t283 => (if t283 = true then (some false) else (if 0 ≤ (wrap64 ((a0.size : Int) - 1)) then (if (wrap64 ((a0.size : Int) - 1)) < (a0.size : Int) then ((catchpitref02_blank.f (bt a0 (wrap64 ((a0.size : Int) - 1)))).bind fun t284 => (some (!t284))) else (none)) else (none)))) else (none))) else (some false))
theorem catchpitref02_Value.mono : ∀ a0 k, LeO (catchpitref02_Value.f k a0) (catchpitref02_Value.f (k + 1) a0) := by
  intro a0 k
  unfold catchpitref02_Value.f
  repeat' first
      | (with_reducible exact catchpitref02_Text.mono _ _)
      | (with_reducible exact LeO.refl _)
      | (with_reducible exact LeO.none _)
      | (with_reducible refine LeO.ite ?_ ?_)
      | (with_reducible refine LeO.bind ?_ (fun _ => ?_))
      | exact catchpitref02_Text.mono _ _
      | exact LeO.none _
      | refine LeO.ite ?_ ?_
      | refine LeO.bind ?_ (fun _ => ?_)
end Go.Proofs.YtmmbpbgcobmifaaDoor.Pr
end
section
namespace Go.Proofs.YtmmbpbgcobmifaaDoor.Pr
open Go.RowKit Go.Proofs.YtmmbpbgcobmifaaDoorH Go.Proofs.YtmmbpbgcobmifaaDoorW.PrintWords Go.Proofs.YtmmbpbgcobmifaaDoorW.PrintLast Go.Proofs.YtmmbpbgcobmifaaDoorW.PrintMore
attribute [local go_sem] max2_int min2_int max_two min_two max_three min_three max_four min_four   -- for this text's walks alone
set_option linter.unusedVariables false
set_option linter.unusedSimpArgs false
def octet_Value.f (a0 : ByteArray) : Option (Bool) := (octet_Text.f a0).bind fun t239 => (if t239 = true then ((octet_Trim.f a0).bind fun t240 => (some (t240.toList == a0.toList))) else (some false))
set_option maxHeartbeats 8000000 in
set_option maxRecDepth 100000 in
theorem octet_Value.calls (a0 : ByteArray) (r : Bool) (w : World) (hG : TabOk w) (h : octet_Value.f a0 = some r) :
    Calls Tryd.prog 102 #[.string a0] w fun e w' => e = .returned (.bool r) ∧ Below w.heap.size w w' := by
  have HB := Aside0.mk (Below.refl w.heap.size w)
  have H : ((octet_Text.f a0).bind fun t239 => (if t239 = true then ((octet_Trim.f a0).bind fun t240 => (some (t240.toList == a0.toList))) else (some false))) = some r := h
  clear h
  replace H := Option.bind_eq_some_iff.mp H
  obtain ⟨t239, A20, H⟩ := H
  replace H : (if t239 = true then ((octet_Trim.f a0).bind fun t240 => (some (t240.toList == a0.toList))) else (some false)) = some r := H
  have A2 := Aside0.mk A20
  clear A20
  by_cases c3 : t239 = true
  · subst c3
    have H1 : ((octet_Trim.f a0).bind fun t240 => (some (t240.toList == a0.toList))) = some r := by rw [if_pos rfl] at H; exact H
    clear H
    have H := H1
    clear H1
    replace H := Option.bind_eq_some_iff.mp H
    obtain ⟨t240, A40, H⟩ := H
    replace H : (some (t240.toList == a0.toList)) = some r := H
    have A4 := Aside0.mk A40
    clear A40
    obtain rfl := Option.some.inj H
    go_enter Tryd.func102, Tryd.ntmps102
    go_wp2_with (first | ((with_reducible refine gate_callee (f := 74) rfl ?_); refine goesL_ (some 4) rfl rfl Tryd.func74 (by kernel_rfl) rfl #[.string a0] rfl (by (try simp only [List.map_toArray, List.map_cons, List.map_nil]); first | done | rfl | (simp only [List.length_drop, List.length_take]; rfl)) ?_; (with_reducible refine (octet_Text.calls a0 true _ ?side1 A2.out).mono ?_); (case side1 => first | exact hG | exact TabOk.drewN hG _ | exact TabOk.drewN (TabOk.drewN hG _) _ | exact TabOk.below hG (by repeat (first | (with_reducible first | exact HB.out | apply below_alloc | apply pw_below_drewN | apply below_drew1) | exact HB.out))); rintro e w5 ⟨rfl, hb⟩; refine ⟨_, rfl, ?_⟩; have n0_ := Aside0.mk (below_step (by repeat (first | (with_reducible first | exact HB.out | apply below_alloc | apply pw_below_drewN | apply below_drew1) | exact HB.out)) hb); clear HB; have HB := n0_; clear n0_; (try clear hb); (try clear hb2); (try clear hk); (try clear hi)) | (go_at_call 91; (with_reducible refine (octet_Trim.calls a0 t240 _ ?side1 A4.out).mono ?_); (case side1 => first | exact hG | exact TabOk.drewN hG _ | exact TabOk.drewN (TabOk.drewN hG _) _ | exact TabOk.below hG (by repeat (first | (with_reducible first | exact HB.out | apply below_alloc | apply pw_below_drewN | apply below_drew1) | exact HB.out))); rintro e w6 ⟨rfl, hb⟩; have n0_ := Aside0.mk (below_step (by repeat (first | (with_reducible first | exact HB.out | apply below_alloc | apply pw_below_drewN | apply below_drew1) | exact HB.out)) hb); clear HB; have HB := n0_; clear n0_; (try clear hb); (try clear hb2); (try clear hk); (try clear hi)))
    go_ret
    exact ⟨by first | rfl | (simp [errW_none, errW_some] <;> rfl) | (simp [*, errW_none, errW_some] <;> rfl), by repeat (first | (with_reducible first | exact HB.out | apply below_alloc | apply pw_below_drewN | apply below_drew1) | exact HB.out)⟩
  · replace c3 := Bool.eq_false_iff.mpr c3
    subst c3
    have H1 : (some false) = some r := by rw [if_neg (show ¬ (false = true) by decide)] at H; exact H
    clear H
    have H := H1
    clear H1
    obtain rfl := Option.some.inj H
    go_enter Tryd.func102, Tryd.ntmps102
    go_wp2_with (first | ((with_reducible refine gate_callee (f := 74) rfl ?_); refine goesL_ (some 4) rfl rfl Tryd.func74 (by kernel_rfl) rfl #[.string a0] rfl (by (try simp only [List.map_toArray, List.map_cons, List.map_nil]); first | done | rfl | (simp only [List.length_drop, List.length_take]; rfl)) ?_; (with_reducible refine (octet_Text.calls a0 false _ ?side1 A2.out).mono ?_); (case side1 => first | exact hG | exact TabOk.drewN hG _ | exact TabOk.drewN (TabOk.drewN hG _) _ | exact TabOk.below hG (by repeat (first | (with_reducible first | exact HB.out | apply below_alloc | apply pw_below_drewN | apply below_drew1) | exact HB.out))); rintro e w7 ⟨rfl, hb⟩; refine ⟨_, rfl, ?_⟩; have n0_ := Aside0.mk (below_step (by repeat (first | (with_reducible first | exact HB.out | apply below_alloc | apply pw_below_drewN | apply below_drew1) | exact HB.out)) hb); clear HB; have HB := n0_; clear n0_; (try clear hb); (try clear hb2); (try clear hk); (try clear hi)))
    go_ret
    exact ⟨by first | rfl | (simp [errW_none, errW_some] <;> rfl) | (simp [*, errW_none, errW_some] <;> rfl), by repeat (first | (with_reducible first | exact HB.out | apply below_alloc | apply pw_below_drewN | apply below_drew1) | exact HB.out)⟩
end Go.Proofs.YtmmbpbgcobmifaaDoor.Pr
end
section
namespace Go.Proofs.YtmmbpbgcobmifaaDoor.Pr
open Go.RowKit Go.Proofs.YtmmbpbgcobmifaaDoorH Go.Proofs.YtmmbpbgcobmifaaDoorW.PrintWords Go.Proofs.YtmmbpbgcobmifaaDoorW.PrintLast Go.Proofs.YtmmbpbgcobmifaaDoorW.PrintMore
attribute [local go_sem] max2_int min2_int max_two min_two max_three min_three max_four min_four   -- for this text's walks alone
set_option linter.unusedVariables false
set_option linter.unusedSimpArgs false
def field_Right.f (a0_0 : ByteArray) (a0_1 : ByteArray) : Option (Bool) := (octet_Token.f a0_0).bind fun t242 => (if t242 = true then ((octet_Value.f a0_1).bind fun t243 => (some t243)) else (some false))
set_option maxHeartbeats 8000000 in
set_option maxRecDepth 100000 in
theorem field_Right.calls (a0_0 : ByteArray) (a0_1 : ByteArray) (r : Bool) (w : World) (hG : TabOk w) (h : field_Right.f a0_0 a0_1 = some r) :
    Calls Tryd.prog 92 #[.agg #[.string a0_0, .string a0_1]] w fun e w' => e = .returned (.bool r) ∧ Below w.heap.size w w' := by
  have hu53 := Tryd.underlying53
  have HB := Aside0.mk (Below.refl w.heap.size w)
  have H : ((octet_Token.f a0_0).bind fun t242 => (if t242 = true then ((octet_Value.f a0_1).bind fun t243 => (some t243)) else (some false))) = some r := h
  clear h
  replace H := Option.bind_eq_some_iff.mp H
  obtain ⟨t242, A20, H⟩ := H
  replace H : (if t242 = true then ((octet_Value.f a0_1).bind fun t243 => (some t243)) else (some false)) = some r := H
  have A2 := Aside0.mk A20
  clear A20
  by_cases c3 : t242 = true
  · subst c3
    have H1 : ((octet_Value.f a0_1).bind fun t243 => (some t243)) = some r := by rw [if_pos rfl] at H; exact H
    clear H
    have H := H1
    clear H1
    replace H := Option.bind_eq_some_iff.mp H
    obtain ⟨t243, A40, H⟩ := H
    replace H : (some t243) = some r := H
    have A4 := Aside0.mk A40
    clear A40
    obtain rfl := Option.some.inj H
    go_enter Tryd.func92, Tryd.ntmps92
    go_wp2_with (first | ((with_reducible refine gate_dst (N := 1) rfl ?_); refine box_event ?hg (N := 1) ?hd (cs := #[.string a0_0, .string a0_1]) (t := 53) ?hr ?_; (case hd => rfl); (case hg => rfl); (case hr => first | (go_simp; done) | (go_simp; rfl)); intro gb241 hg w5 hbox hb; have n0_ := Aside0.mk (below_step (by repeat (first | (with_reducible first | exact HB.out | apply below_alloc | apply pw_below_drewN | apply below_drew1) | exact HB.out)) hb); have n1_ := Aside0.mk (hbox); have n2_ := Aside0.mk ((by rw [hg]; exact (below_size (by repeat (first | (with_reducible first | exact HB.out | apply below_alloc | apply pw_below_drewN | apply below_drew1) | exact HB.out))) : w.heap.size ≤ gb241)); have n3_ := Aside0.mk ((by rw [hg]; exact (below_size (by repeat (first | (with_reducible first | exact HB.out | apply below_alloc | apply pw_below_drewN | apply below_drew1) | exact HB.out))) : w.heap.size ≤ gb241)); clear HB; have HB := n0_; have BK241 := n1_; have GW241 := n2_; have GE241 := n3_; clear n0_ n1_ n2_ n3_; clear hb hbox hg; have hcz6_0 : w5.cell? ⟨gb241, 0, none⟩ = some (.string a0_0) := (blk_cell BK241.out 0).trans rfl; have hcz6_1 : w5.cell? ⟨gb241, 1, none⟩ = some (.string a0_1) := (blk_cell BK241.out 1).trans rfl; have hfz6_0 := blk_frozen BK241.out 0; have hfz6_1 := blk_frozen BK241.out 1) | ((with_reducible refine gate_callee (f := 75) rfl ?_); refine goesL_ (some 5) rfl rfl Tryd.func75 (by kernel_rfl) rfl #[.string a0_0] rfl (by (try simp only [List.map_toArray, List.map_cons, List.map_nil]); first | done | rfl | (simp only [List.length_drop, List.length_take]; rfl)) ?_; (with_reducible refine (octet_Token.calls a0_0 true _ ?side1 A2.out).mono ?_); (case side1 => first | exact hG | exact TabOk.drewN hG _ | exact TabOk.drewN (TabOk.drewN hG _) _ | exact TabOk.below hG (by repeat (first | (with_reducible first | exact HB.out | apply below_alloc | apply pw_below_drewN | apply below_drew1 | refine below_set ?_ GE241.out) | exact HB.out))); rintro e w7 ⟨rfl, hb⟩; refine ⟨_, rfl, ?_⟩; have n0_ := Aside0.mk (blk_below (g := gb241) (o := .cells #[.string a0_0, .string a0_1] 53 (0, 0)) (by (with_reducible repeat (first | refine blk_drewN ?_ _ | refine blk_drew ?_ | refine blk_alloc ?_ _)); exact BK241.out) hb); have n1_ := Aside0.mk (below_step (by repeat (first | (with_reducible first | exact HB.out | apply below_alloc | apply pw_below_drewN | apply below_drew1 | refine below_set ?_ GE241.out) | exact HB.out)) hb); clear BK241; clear HB; have BK241 := n0_; have HB := n1_; clear n0_ n1_; (try clear hb); (try clear hb2); (try clear hk); (try clear hi); have hcz8_0 : w7.cell? ⟨gb241, 0, none⟩ = some (.string a0_0) := (blk_cell BK241.out 0).trans rfl; have hcz8_1 : w7.cell? ⟨gb241, 1, none⟩ = some (.string a0_1) := (blk_cell BK241.out 1).trans rfl; have hfz8_0 := blk_frozen BK241.out 0; have hfz8_1 := blk_frozen BK241.out 1) | (go_at_call 102; (with_reducible refine (octet_Value.calls a0_1 t243 _ ?side1 A4.out).mono ?_); (case side1 => first | exact hG | exact TabOk.drewN hG _ | exact TabOk.drewN (TabOk.drewN hG _) _ | exact TabOk.below hG (by repeat (first | (with_reducible first | exact HB.out | apply below_alloc | apply pw_below_drewN | apply below_drew1 | refine below_set ?_ GE241.out) | exact HB.out))); rintro e w9 ⟨rfl, hb⟩; have n0_ := Aside0.mk (blk_below (g := gb241) (o := .cells #[.string a0_0, .string a0_1] 53 (0, 0)) (by (with_reducible repeat (first | refine blk_drewN ?_ _ | refine blk_drew ?_ | refine blk_alloc ?_ _)); exact BK241.out) hb); have n1_ := Aside0.mk (below_step (by repeat (first | (with_reducible first | exact HB.out | apply below_alloc | apply pw_below_drewN | apply below_drew1 | refine below_set ?_ GE241.out) | exact HB.out)) hb); clear BK241; clear HB; have BK241 := n0_; have HB := n1_; clear n0_ n1_; (try clear hb); (try clear hb2); (try clear hk); (try clear hi)))
    go_ret
    exact ⟨by first | rfl | (simp [errW_none, errW_some] <;> rfl) | (simp [*, errW_none, errW_some] <;> rfl), by repeat (first | (with_reducible first | exact HB.out | apply below_alloc | apply pw_below_drewN | apply below_drew1 | refine below_set ?_ GE241.out) | exact HB.out)⟩
  · replace c3 := Bool.eq_false_iff.mpr c3
    subst c3
    have H1 : (some false) = some r := by rw [if_neg (show ¬ (false = true) by decide)] at H; exact H
    clear H
    have H := H1
    clear H1
    obtain rfl := Option.some.inj H
    go_enter Tryd.func92, Tryd.ntmps92
    go_wp2_with (first | ((with_reducible refine gate_dst (N := 1) rfl ?_); refine box_event ?hg (N := 1) ?hd (cs := #[.string a0_0, .string a0_1]) (t := 53) ?hr ?_; (case hd => rfl); (case hg => rfl); (case hr => first | (go_simp; done) | (go_simp; rfl)); intro gb241 hg w10 hbox hb; have n0_ := Aside0.mk (below_step (by repeat (first | (with_reducible first | exact HB.out | apply below_alloc | apply pw_below_drewN | apply below_drew1) | exact HB.out)) hb); have n1_ := Aside0.mk (hbox); have n2_ := Aside0.mk ((by rw [hg]; exact (below_size (by repeat (first | (with_reducible first | exact HB.out | apply below_alloc | apply pw_below_drewN | apply below_drew1) | exact HB.out))) : w.heap.size ≤ gb241)); have n3_ := Aside0.mk ((by rw [hg]; exact (below_size (by repeat (first | (with_reducible first | exact HB.out | apply below_alloc | apply pw_below_drewN | apply below_drew1) | exact HB.out))) : w.heap.size ≤ gb241)); clear HB; have HB := n0_; have BK241 := n1_; have GW241 := n2_; have GE241 := n3_; clear n0_ n1_ n2_ n3_; clear hb hbox hg; have hcz11_0 : w10.cell? ⟨gb241, 0, none⟩ = some (.string a0_0) := (blk_cell BK241.out 0).trans rfl; have hcz11_1 : w10.cell? ⟨gb241, 1, none⟩ = some (.string a0_1) := (blk_cell BK241.out 1).trans rfl; have hfz11_0 := blk_frozen BK241.out 0; have hfz11_1 := blk_frozen BK241.out 1) | ((with_reducible refine gate_callee (f := 75) rfl ?_); refine goesL_ (some 5) rfl rfl Tryd.func75 (by kernel_rfl) rfl #[.string a0_0] rfl (by (try simp only [List.map_toArray, List.map_cons, List.map_nil]); first | done | rfl | (simp only [List.length_drop, List.length_take]; rfl)) ?_; (with_reducible refine (octet_Token.calls a0_0 false _ ?side1 A2.out).mono ?_); (case side1 => first | exact hG | exact TabOk.drewN hG _ | exact TabOk.drewN (TabOk.drewN hG _) _ | exact TabOk.below hG (by repeat (first | (with_reducible first | exact HB.out | apply below_alloc | apply pw_below_drewN | apply below_drew1 | refine below_set ?_ GE241.out) | exact HB.out))); rintro e w12 ⟨rfl, hb⟩; refine ⟨_, rfl, ?_⟩; have n0_ := Aside0.mk (blk_below (g := gb241) (o := .cells #[.string a0_0, .string a0_1] 53 (0, 0)) (by (with_reducible repeat (first | refine blk_drewN ?_ _ | refine blk_drew ?_ | refine blk_alloc ?_ _)); exact BK241.out) hb); have n1_ := Aside0.mk (below_step (by repeat (first | (with_reducible first | exact HB.out | apply below_alloc | apply pw_below_drewN | apply below_drew1 | refine below_set ?_ GE241.out) | exact HB.out)) hb); clear BK241; clear HB; have BK241 := n0_; have HB := n1_; clear n0_ n1_; (try clear hb); (try clear hb2); (try clear hk); (try clear hi)))
    go_ret
    exact ⟨by first | rfl | (simp [errW_none, errW_some] <;> rfl) | (simp [*, errW_none, errW_some] <;> rfl), by repeat (first | (with_reducible first | exact HB.out | apply below_alloc | apply pw_below_drewN | apply below_drew1 | refine below_set ?_ GE241.out) | exact HB.out)⟩
end Go.Proofs.YtmmbpbgcobmifaaDoor.Pr
end
section
namespace Go.Proofs.YtmmbpbgcobmifaaDoor.Pr
open Go.RowKit Go.Proofs.YtmmbpbgcobmifaaDoorH Go.Proofs.YtmmbpbgcobmifaaDoorW.PrintWords Go.Proofs.YtmmbpbgcobmifaaDoorW.PrintLast Go.Proofs.YtmmbpbgcobmifaaDoorW.PrintMore
attribute [local go_sem] max2_int min2_int max_two min_two max_three min_three max_four min_four   -- for this text's walks alone
set_option linter.unusedVariables false
set_option linter.unusedSimpArgs false
def field_Parse.f (a0 : ByteArray) : Option (ByteArray × ByteArray × Int) := (strings_Cut.f a0 (⟨#[58]⟩ : ByteArray)).bind fun bt245 => ((octet_Trim.f bt245.2.1).bind fun t248 => (if bt245.2.2 = true then ((field_Right.f bt245.1 t248).bind fun t250 => (if t250 = true then (some (bt245.1, t248, 0)) else (some ((⟨#[]⟩ : ByteArray), (⟨#[]⟩ : ByteArray), 2)))) else (some ((⟨#[]⟩ : ByteArray), (⟨#[]⟩ : ByteArray), 2))))
set_option maxHeartbeats 8000000 in
set_option maxRecDepth 100000 in
theorem field_Parse.calls (a0 : ByteArray) (r1 : ByteArray) (r2 : ByteArray) (r3 : Int) (w : World) (hG : TabOk w) (h : field_Parse.f a0 = some (r1, r2, r3)) :
    Calls Tryd.prog 77 #[.string a0] w fun e w' => e = .returned (.tuple #[.agg #[.string r1, .string r2], .int .i64 r3]) ∧ Below w.heap.size w w' := by
  have hu53 := Tryd.underlying53
  have HB := Aside0.mk (Below.refl w.heap.size w)
  have H : ((strings_Cut.f a0 (⟨#[58]⟩ : ByteArray)).bind fun bt245 => ((octet_Trim.f bt245.2.1).bind fun t248 => (if bt245.2.2 = true then ((field_Right.f bt245.1 t248).bind fun t250 => (if t250 = true then (some (bt245.1, t248, 0)) else (some ((⟨#[]⟩ : ByteArray), (⟨#[]⟩ : ByteArray), 2)))) else (some ((⟨#[]⟩ : ByteArray), (⟨#[]⟩ : ByteArray), 2))))) = some (r1, r2, r3) := h
  clear h
  replace H := Option.bind_eq_some_iff.mp H
  obtain ⟨⟨t245, t246, t247⟩, A20, H⟩ := H
  replace H : ((octet_Trim.f t246).bind fun t248 => (if t247 = true then ((field_Right.f t245 t248).bind fun t250 => (if t250 = true then (some (t245, t248, 0)) else (some ((⟨#[]⟩ : ByteArray), (⟨#[]⟩ : ByteArray), 2)))) else (some ((⟨#[]⟩ : ByteArray), (⟨#[]⟩ : ByteArray), 2)))) = some (r1, r2, r3) := H
  have A2 := Aside0.mk A20
  clear A20
  replace H := Option.bind_eq_some_iff.mp H
  obtain ⟨t248, A30, H⟩ := H
  replace H : (if t247 = true then ((field_Right.f t245 t248).bind fun t250 => (if t250 = true then (some (t245, t248, 0)) else (some ((⟨#[]⟩ : ByteArray), (⟨#[]⟩ : ByteArray), 2)))) else (some ((⟨#[]⟩ : ByteArray), (⟨#[]⟩ : ByteArray), 2))) = some (r1, r2, r3) := H
  have A3 := Aside0.mk A30
  clear A30
  by_cases c4 : t247 = true
  · subst c4
    have H1 : ((field_Right.f t245 t248).bind fun t250 => (if t250 = true then (some (t245, t248, 0)) else (some ((⟨#[]⟩ : ByteArray), (⟨#[]⟩ : ByteArray), 2)))) = some (r1, r2, r3) := by rw [if_pos rfl] at H; exact H
    clear H
    have H := H1
    clear H1
    replace H := Option.bind_eq_some_iff.mp H
    obtain ⟨t250, A50, H⟩ := H
    replace H : (if t250 = true then (some (t245, t248, 0)) else (some ((⟨#[]⟩ : ByteArray), (⟨#[]⟩ : ByteArray), 2))) = some (r1, r2, r3) := H
    have A5 := Aside0.mk A50
    clear A50
    by_cases c6 : t250 = true
    · subst c6
      have H1 : (some (t245, t248, 0)) = some (r1, r2, r3) := by rw [if_pos rfl] at H; exact H
      clear H
      have H := H1
      clear H1
      simp only [Option.some.injEq, Prod.mk.injEq] at H
      obtain ⟨rfl, rfl, rfl⟩ := H
      go_enter Tryd.func77, Tryd.ntmps77
      go_wp2_with (first | ((with_reducible refine gate_dst (N := 2) rfl ?_); refine box_event ?hg (N := 2) ?hd (cs := #[.string (⟨#[]⟩ : ByteArray), .string (⟨#[]⟩ : ByteArray)]) (t := 53) ?hr ?_; (case hd => rfl); (case hg => rfl); (case hr => first | (go_simp; done) | (go_simp; rfl)); intro gb244 hg w7 hbox hb; have n0_ := Aside0.mk (below_step (by repeat (first | (with_reducible first | exact HB.out | apply below_alloc | apply pw_below_drewN | apply below_drew1) | exact HB.out)) hb); have n1_ := Aside0.mk (hbox); have n2_ := Aside0.mk ((by rw [hg]; exact (below_size (by repeat (first | (with_reducible first | exact HB.out | apply below_alloc | apply pw_below_drewN | apply below_drew1) | exact HB.out))) : w.heap.size ≤ gb244)); have n3_ := Aside0.mk ((by rw [hg]; exact (below_size (by repeat (first | (with_reducible first | exact HB.out | apply below_alloc | apply pw_below_drewN | apply below_drew1) | exact HB.out))) : w.heap.size ≤ gb244)); clear HB; have HB := n0_; have BK244 := n1_; have GW244 := n2_; have GE244 := n3_; clear n0_ n1_ n2_ n3_; clear hb hbox hg) | ((with_reducible refine gate_callee (f := 90) rfl ?_); refine goesL_ (some 10) rfl rfl Tryd.func90 (by kernel_rfl) rfl #[.string a0, .string (⟨#[58]⟩ : ByteArray)] rfl (by (try simp only [List.map_toArray, List.map_cons, List.map_nil]); first | done | rfl | (simp only [List.length_drop, List.length_take]; rfl)) ?_; (with_reducible refine (strings_Cut.calls a0 (⟨#[58]⟩ : ByteArray) t245 t246 true _ ?side1 A2.out).mono ?_); (case side1 => first | exact hG | exact TabOk.drewN hG _ | exact TabOk.drewN (TabOk.drewN hG _) _ | exact TabOk.below hG (by repeat (first | (with_reducible first | exact HB.out | apply below_alloc | apply pw_below_drewN | apply below_drew1 | refine below_set ?_ GE244.out) | exact HB.out))); rintro e w8 ⟨rfl, hb⟩; refine ⟨_, rfl, ?_⟩; have n0_ := Aside0.mk (blk_below (g := gb244) (o := .cells #[.string (⟨#[]⟩ : ByteArray), .string (⟨#[]⟩ : ByteArray)] 53 (0, 0)) (by (with_reducible repeat (first | refine blk_drewN ?_ _ | refine blk_drew ?_ | refine blk_alloc ?_ _)); exact BK244.out) hb); have n1_ := Aside0.mk (below_step (by repeat (first | (with_reducible first | exact HB.out | apply below_alloc | apply pw_below_drewN | apply below_drew1 | refine below_set ?_ GE244.out) | exact HB.out)) hb); clear BK244; clear HB; have BK244 := n0_; have HB := n1_; clear n0_ n1_; (try clear hb); (try clear hb2); (try clear hk); (try clear hi)) | ((with_reducible refine gate_callee (f := 91) rfl ?_); refine goesL_ (some 16) rfl rfl Tryd.func91 (by kernel_rfl) rfl #[.string t246] rfl (by (try simp only [List.map_toArray, List.map_cons, List.map_nil]); first | done | rfl | (simp only [List.length_drop, List.length_take]; rfl)) ?_; (with_reducible refine (octet_Trim.calls t246 t248 _ ?side1 A3.out).mono ?_); (case side1 => first | exact hG | exact TabOk.drewN hG _ | exact TabOk.drewN (TabOk.drewN hG _) _ | exact TabOk.below hG (by repeat (first | (with_reducible first | exact HB.out | apply below_alloc | apply pw_below_drewN | apply below_drew1 | refine below_set ?_ GE244.out) | exact HB.out))); rintro e w9 ⟨rfl, hb⟩; refine ⟨_, rfl, ?_⟩; have n0_ := Aside0.mk (blk_below (g := gb244) (o := .cells #[.string (⟨#[]⟩ : ByteArray), .string (⟨#[]⟩ : ByteArray)] 53 (0, 0)) (by (with_reducible repeat (first | refine blk_drewN ?_ _ | refine blk_drew ?_ | refine blk_alloc ?_ _)); exact BK244.out) hb); have n1_ := Aside0.mk (below_step (by repeat (first | (with_reducible first | exact HB.out | apply below_alloc | apply pw_below_drewN | apply below_drew1 | refine below_set ?_ GE244.out) | exact HB.out)) hb); clear BK244; clear HB; have BK244 := n0_; have HB := n1_; clear n0_ n1_; (try clear hb); (try clear hb2); (try clear hk); (try clear hi)) | ((with_reducible refine gate_dst (N := 7) rfl ?_); refine box_event ?hg (N := 7) ?hd (cs := #[.string (⟨#[]⟩ : ByteArray), .string (⟨#[]⟩ : ByteArray)]) (t := 53) ?hr ?_; (case hd => rfl); (case hg => rfl); (case hr => first | (go_simp; done) | (go_simp; rfl)); intro gb249 hg w10 hbox hb; have n0_ := Aside0.mk (blk_below (g := gb244) (o := .cells #[.string (⟨#[]⟩ : ByteArray), .string (⟨#[]⟩ : ByteArray)] 53 (0, 0)) (by (with_reducible repeat (first | refine blk_drewN ?_ _ | refine blk_drew ?_ | refine blk_alloc ?_ _)); exact BK244.out) hb); have n1_ := Aside0.mk (below_step (by repeat (first | (with_reducible first | exact HB.out | apply below_alloc | apply pw_below_drewN | apply below_drew1 | refine below_set ?_ GE244.out) | exact HB.out)) hb); have n2_ := Aside0.mk (hbox); have n3_ := Aside0.mk ((by rw [hg]; exact (below_size (by repeat (first | (with_reducible first | exact HB.out | apply below_alloc | apply pw_below_drewN | apply below_drew1 | refine below_set ?_ GE244.out) | exact HB.out))) : w.heap.size ≤ gb249)); have n4_ := Aside0.mk ((by rw [hg]; exact (below_size (by repeat (first | (with_reducible first | exact HB.out | apply below_alloc | apply pw_below_drewN | apply below_drew1 | refine below_set ?_ GE244.out) | exact HB.out))) : w.heap.size ≤ gb249)); have n5_ := Aside0.mk ((by rw [hg]; exact Nat.ne_of_lt (blk_lt (g := gb244) (o := .cells #[.string (⟨#[]⟩ : ByteArray), .string (⟨#[]⟩ : ByteArray)] 53 (0, 0)) (by (with_reducible repeat (first | refine blk_drewN ?_ _ | refine blk_drew ?_ | refine blk_alloc ?_ _)); exact BK244.out)) : gb244 ≠ gb249)); have n6_ := Aside0.mk ((by rw [hg]; exact Nat.ne_of_gt (blk_lt (g := gb244) (o := .cells #[.string (⟨#[]⟩ : ByteArray), .string (⟨#[]⟩ : ByteArray)] 53 (0, 0)) (by (with_reducible repeat (first | refine blk_drewN ?_ _ | refine blk_drew ?_ | refine blk_alloc ?_ _)); exact BK244.out)) : gb249 ≠ gb244)); clear BK244; clear HB; have BK244 := n0_; have HB := n1_; have BK249 := n2_; have GW249 := n3_; have GE249 := n4_; have NB244_249 := n5_; have NB249_244 := n6_; clear n0_ n1_ n2_ n3_ n4_ n5_ n6_; clear hb hbox hg; have hnb11 := NB249_244.out; have hnc11 := NB244_249.out; have hcz12_0 : w10.cell? ⟨gb249, 0, none⟩ = some (.string (⟨#[]⟩ : ByteArray)) := (blk_cell BK249.out 0).trans rfl; have hcz12_1 : w10.cell? ⟨gb249, 1, none⟩ = some (.string (⟨#[]⟩ : ByteArray)) := (blk_cell BK249.out 1).trans rfl; have hfz12_0 := blk_frozen BK249.out 0; have hfz12_1 := blk_frozen BK249.out 1) | (go_at_call 92; (with_reducible refine (field_Right.calls t245 t248 true _ ?side1 A5.out).mono ?_); (case side1 => first | exact hG | exact TabOk.drewN hG _ | exact TabOk.drewN (TabOk.drewN hG _) _ | exact TabOk.below hG (by repeat (first | (with_reducible first | exact HB.out | apply below_alloc | apply pw_below_drewN | apply below_drew1 | refine below_set ?_ GE244.out | refine below_set ?_ GE249.out) | exact HB.out))); rintro e w13 ⟨rfl, hb⟩; have n0_ := Aside0.mk (blk_below (g := gb244) (o := .cells #[.string (⟨#[]⟩ : ByteArray), .string (⟨#[]⟩ : ByteArray)] 53 (0, 0)) (by (with_reducible repeat (first | refine blk_drewN ?_ _ | refine blk_drew ?_ | refine blk_alloc ?_ _)); refine blk_far ?_ NB244_249.out _; (with_reducible repeat (first | refine blk_drewN ?_ _ | refine blk_drew ?_ | refine blk_alloc ?_ _)); refine blk_far ?_ NB244_249.out _; (with_reducible repeat (first | refine blk_drewN ?_ _ | refine blk_drew ?_ | refine blk_alloc ?_ _)); exact BK244.out) hb); have n1_ := Aside0.mk (blk_below (g := gb249) (o := .cells #[.string t245, .string t248] 53 (0, 0)) (by (with_reducible repeat (first | refine blk_drewN ?_ _ | refine blk_drew ?_ | refine blk_alloc ?_ _)); refine blk_put (cs := #[.string t245, .string (⟨#[]⟩ : ByteArray)]) ?_ 1 _ rfl; (with_reducible repeat (first | refine blk_drewN ?_ _ | refine blk_drew ?_ | refine blk_alloc ?_ _)); refine blk_put (cs := #[.string (⟨#[]⟩ : ByteArray), .string (⟨#[]⟩ : ByteArray)]) ?_ 0 _ rfl; (with_reducible repeat (first | refine blk_drewN ?_ _ | refine blk_drew ?_ | refine blk_alloc ?_ _)); exact BK249.out) hb); have n2_ := Aside0.mk (below_step (by repeat (first | (with_reducible first | exact HB.out | apply below_alloc | apply pw_below_drewN | apply below_drew1 | refine below_set ?_ GE244.out | refine below_set ?_ GE249.out) | exact HB.out)) hb); clear BK244; clear BK249; clear HB; have BK244 := n0_; have BK249 := n1_; have HB := n2_; clear n0_ n1_ n2_; (try clear hb); (try clear hb2); (try clear hk); (try clear hi); have hcz14_0 : w13.cell? ⟨gb249, 0, none⟩ = some (.string t245) := (blk_cell BK249.out 0).trans rfl; have hcz14_1 : w13.cell? ⟨gb249, 1, none⟩ = some (.string t248) := (blk_cell BK249.out 1).trans rfl; have hfz14_0 := blk_frozen BK249.out 0; have hfz14_1 := blk_frozen BK249.out 1; have hcz15_0 : w13.cell? ⟨gb244, 0, none⟩ = some (.string (⟨#[]⟩ : ByteArray)) := (blk_cell BK244.out 0).trans rfl; have hcz15_1 : w13.cell? ⟨gb244, 1, none⟩ = some (.string (⟨#[]⟩ : ByteArray)) := (blk_cell BK244.out 1).trans rfl; have hfz15_0 := blk_frozen BK244.out 0; have hfz15_1 := blk_frozen BK244.out 1))
      refine bodyPost_ret (results_ct rfl _ _ gb244 53 #[.string t245, .string t248] (0, 0) _ rfl (by (with_reducible repeat (first | refine blk_drewN ?_ _ | refine blk_drew ?_ | refine blk_alloc ?_ _)); refine blk_put (cs := #[.string t245, .string (⟨#[]⟩ : ByteArray)]) ?_ 1 _ rfl; (with_reducible repeat (first | refine blk_drewN ?_ _ | refine blk_drew ?_ | refine blk_alloc ?_ _)); refine blk_put (cs := #[.string (⟨#[]⟩ : ByteArray), .string (⟨#[]⟩ : ByteArray)]) ?_ 0 _ rfl; (with_reducible repeat (first | refine blk_drewN ?_ _ | refine blk_drew ?_ | refine blk_alloc ?_ _)); exact BK244.out) Tryd.underlying53 rfl (by kernel_rfl)) rfl ?_
      exact ⟨by first | rfl | (simp [errW_none, errW_some] <;> rfl) | (simp [*, errW_none, errW_some] <;> rfl), by repeat (first | (with_reducible first | exact HB.out | apply below_alloc | apply pw_below_drewN | apply below_drew1 | refine below_set ?_ GE244.out | refine below_set ?_ GE249.out) | exact HB.out)⟩
    · replace c6 := Bool.eq_false_iff.mpr c6
      subst c6
      have H1 : (some ((⟨#[]⟩ : ByteArray), (⟨#[]⟩ : ByteArray), 2)) = some (r1, r2, r3) := by rw [if_neg (show ¬ (false = true) by decide)] at H; exact H
      clear H
      have H := H1
      clear H1
      simp only [Option.some.injEq, Prod.mk.injEq] at H
      obtain ⟨rfl, rfl, rfl⟩ := H
      go_enter Tryd.func77, Tryd.ntmps77
      go_wp2_with (first | ((with_reducible refine gate_dst (N := 2) rfl ?_); refine box_event ?hg (N := 2) ?hd (cs := #[.string (⟨#[]⟩ : ByteArray), .string (⟨#[]⟩ : ByteArray)]) (t := 53) ?hr ?_; (case hd => rfl); (case hg => rfl); (case hr => first | (go_simp; done) | (go_simp; rfl)); intro gb244 hg w16 hbox hb; have n0_ := Aside0.mk (below_step (by repeat (first | (with_reducible first | exact HB.out | apply below_alloc | apply pw_below_drewN | apply below_drew1) | exact HB.out)) hb); have n1_ := Aside0.mk (hbox); have n2_ := Aside0.mk ((by rw [hg]; exact (below_size (by repeat (first | (with_reducible first | exact HB.out | apply below_alloc | apply pw_below_drewN | apply below_drew1) | exact HB.out))) : w.heap.size ≤ gb244)); have n3_ := Aside0.mk ((by rw [hg]; exact (below_size (by repeat (first | (with_reducible first | exact HB.out | apply below_alloc | apply pw_below_drewN | apply below_drew1) | exact HB.out))) : w.heap.size ≤ gb244)); clear HB; have HB := n0_; have BK244 := n1_; have GW244 := n2_; have GE244 := n3_; clear n0_ n1_ n2_ n3_; clear hb hbox hg) | ((with_reducible refine gate_callee (f := 90) rfl ?_); refine goesL_ (some 10) rfl rfl Tryd.func90 (by kernel_rfl) rfl #[.string a0, .string (⟨#[58]⟩ : ByteArray)] rfl (by (try simp only [List.map_toArray, List.map_cons, List.map_nil]); first | done | rfl | (simp only [List.length_drop, List.length_take]; rfl)) ?_; (with_reducible refine (strings_Cut.calls a0 (⟨#[58]⟩ : ByteArray) t245 t246 true _ ?side1 A2.out).mono ?_); (case side1 => first | exact hG | exact TabOk.drewN hG _ | exact TabOk.drewN (TabOk.drewN hG _) _ | exact TabOk.below hG (by repeat (first | (with_reducible first | exact HB.out | apply below_alloc | apply pw_below_drewN | apply below_drew1 | refine below_set ?_ GE244.out) | exact HB.out))); rintro e w17 ⟨rfl, hb⟩; refine ⟨_, rfl, ?_⟩; have n0_ := Aside0.mk (blk_below (g := gb244) (o := .cells #[.string (⟨#[]⟩ : ByteArray), .string (⟨#[]⟩ : ByteArray)] 53 (0, 0)) (by (with_reducible repeat (first | refine blk_drewN ?_ _ | refine blk_drew ?_ | refine blk_alloc ?_ _)); exact BK244.out) hb); have n1_ := Aside0.mk (below_step (by repeat (first | (with_reducible first | exact HB.out | apply below_alloc | apply pw_below_drewN | apply below_drew1 | refine below_set ?_ GE244.out) | exact HB.out)) hb); clear BK244; clear HB; have BK244 := n0_; have HB := n1_; clear n0_ n1_; (try clear hb); (try clear hb2); (try clear hk); (try clear hi)) | ((with_reducible refine gate_callee (f := 91) rfl ?_); refine goesL_ (some 16) rfl rfl Tryd.func91 (by kernel_rfl) rfl #[.string t246] rfl (by (try simp only [List.map_toArray, List.map_cons, List.map_nil]); first | done | rfl | (simp only [List.length_drop, List.length_take]; rfl)) ?_; (with_reducible refine (octet_Trim.calls t246 t248 _ ?side1 A3.out).mono ?_); (case side1 => first | exact hG | exact TabOk.drewN hG _ | exact TabOk.drewN (TabOk.drewN hG _) _ | exact TabOk.below hG (by repeat (first | (with_reducible first | exact HB.out | apply below_alloc | apply pw_below_drewN | apply below_drew1 | refine below_set ?_ GE244.out) | exact HB.out))); rintro e w18 ⟨rfl, hb⟩; refine ⟨_, rfl, ?_⟩; have n0_ := Aside0.mk (blk_below (g := gb244) (o := .cells #[.string (⟨#[]⟩ : ByteArray), .string (⟨#[]⟩ : ByteArray)] 53 (0, 0)) (by (with_reducible repeat (first | refine blk_drewN ?_ _ | refine blk_drew ?_ | refine blk_alloc ?_ _)); exact BK244.out) hb); have n1_ := Aside0.mk (below_step (by repeat (first | (with_reducible first | exact HB.out | apply below_alloc | apply pw_below_drewN | apply below_drew1 | refine below_set ?_ GE244.out) | exact HB.out)) hb); clear BK244; clear HB; have BK244 := n0_; have HB := n1_; clear n0_ n1_; (try clear hb); (try clear hb2); (try clear hk); (try clear hi)) | ((with_reducible refine gate_dst (N := 7) rfl ?_); refine box_event ?hg (N := 7) ?hd (cs := #[.string (⟨#[]⟩ : ByteArray), .string (⟨#[]⟩ : ByteArray)]) (t := 53) ?hr ?_; (case hd => rfl); (case hg => rfl); (case hr => first | (go_simp; done) | (go_simp; rfl)); intro gb249 hg w19 hbox hb; have n0_ := Aside0.mk (blk_below (g := gb244) (o := .cells #[.string (⟨#[]⟩ : ByteArray), .string (⟨#[]⟩ : ByteArray)] 53 (0, 0)) (by (with_reducible repeat (first | refine blk_drewN ?_ _ | refine blk_drew ?_ | refine blk_alloc ?_ _)); exact BK244.out) hb); have n1_ := Aside0.mk (below_step (by repeat (first | (with_reducible first | exact HB.out | apply below_alloc | apply pw_below_drewN | apply below_drew1 | refine below_set ?_ GE244.out) | exact HB.out)) hb); have n2_ := Aside0.mk (hbox); have n3_ := Aside0.mk ((by rw [hg]; exact (below_size (by repeat (first | (with_reducible first | exact HB.out | apply below_alloc | apply pw_below_drewN | apply below_drew1 | refine below_set ?_ GE244.out) | exact HB.out))) : w.heap.size ≤ gb249)); have n4_ := Aside0.mk ((by rw [hg]; exact (below_size (by repeat (first | (with_reducible first | exact HB.out | apply below_alloc | apply pw_below_drewN | apply below_drew1 | refine below_set ?_ GE244.out) | exact HB.out))) : w.heap.size ≤ gb249)); have n5_ := Aside0.mk ((by rw [hg]; exact Nat.ne_of_lt (blk_lt (g := gb244) (o := .cells #[.string (⟨#[]⟩ : ByteArray), .string (⟨#[]⟩ : ByteArray)] 53 (0, 0)) (by (with_reducible repeat (first | refine blk_drewN ?_ _ | refine blk_drew ?_ | refine blk_alloc ?_ _)); exact BK244.out)) : gb244 ≠ gb249)); have n6_ := Aside0.mk ((by rw [hg]; exact Nat.ne_of_gt (blk_lt (g := gb244) (o := .cells #[.string (⟨#[]⟩ : ByteArray), .string (⟨#[]⟩ : ByteArray)] 53 (0, 0)) (by (with_reducible repeat (first | refine blk_drewN ?_ _ | refine blk_drew ?_ | refine blk_alloc ?_ _)); exact BK244.out)) : gb249 ≠ gb244)); clear BK244; clear HB; have BK244 := n0_; have HB := n1_; have BK249 := n2_; have GW249 := n3_; have GE249 := n4_; have NB244_249 := n5_; have NB249_244 := n6_; clear n0_ n1_ n2_ n3_ n4_ n5_ n6_; clear hb hbox hg; have hnb20 := NB249_244.out; have hnc20 := NB244_249.out; have hcz21_0 : w19.cell? ⟨gb249, 0, none⟩ = some (.string (⟨#[]⟩ : ByteArray)) := (blk_cell BK249.out 0).trans rfl; have hcz21_1 : w19.cell? ⟨gb249, 1, none⟩ = some (.string (⟨#[]⟩ : ByteArray)) := (blk_cell BK249.out 1).trans rfl; have hfz21_0 := blk_frozen BK249.out 0; have hfz21_1 := blk_frozen BK249.out 1) | (go_at_call 92; (with_reducible refine (field_Right.calls t245 t248 false _ ?side1 A5.out).mono ?_); (case side1 => first | exact hG | exact TabOk.drewN hG _ | exact TabOk.drewN (TabOk.drewN hG _) _ | exact TabOk.below hG (by repeat (first | (with_reducible first | exact HB.out | apply below_alloc | apply pw_below_drewN | apply below_drew1 | refine below_set ?_ GE244.out | refine below_set ?_ GE249.out) | exact HB.out))); rintro e w22 ⟨rfl, hb⟩; have n0_ := Aside0.mk (blk_below (g := gb244) (o := .cells #[.string (⟨#[]⟩ : ByteArray), .string (⟨#[]⟩ : ByteArray)] 53 (0, 0)) (by (with_reducible repeat (first | refine blk_drewN ?_ _ | refine blk_drew ?_ | refine blk_alloc ?_ _)); refine blk_far ?_ NB244_249.out _; (with_reducible repeat (first | refine blk_drewN ?_ _ | refine blk_drew ?_ | refine blk_alloc ?_ _)); refine blk_far ?_ NB244_249.out _; (with_reducible repeat (first | refine blk_drewN ?_ _ | refine blk_drew ?_ | refine blk_alloc ?_ _)); exact BK244.out) hb); have n1_ := Aside0.mk (blk_below (g := gb249) (o := .cells #[.string t245, .string t248] 53 (0, 0)) (by (with_reducible repeat (first | refine blk_drewN ?_ _ | refine blk_drew ?_ | refine blk_alloc ?_ _)); refine blk_put (cs := #[.string t245, .string (⟨#[]⟩ : ByteArray)]) ?_ 1 _ rfl; (with_reducible repeat (first | refine blk_drewN ?_ _ | refine blk_drew ?_ | refine blk_alloc ?_ _)); refine blk_put (cs := #[.string (⟨#[]⟩ : ByteArray), .string (⟨#[]⟩ : ByteArray)]) ?_ 0 _ rfl; (with_reducible repeat (first | refine blk_drewN ?_ _ | refine blk_drew ?_ | refine blk_alloc ?_ _)); exact BK249.out) hb); have n2_ := Aside0.mk (below_step (by repeat (first | (with_reducible first | exact HB.out | apply below_alloc | apply pw_below_drewN | apply below_drew1 | refine below_set ?_ GE244.out | refine below_set ?_ GE249.out) | exact HB.out)) hb); clear BK244; clear BK249; clear HB; have BK244 := n0_; have BK249 := n1_; have HB := n2_; clear n0_ n1_ n2_; (try clear hb); (try clear hb2); (try clear hk); (try clear hi); have hcz23_0 : w22.cell? ⟨gb244, 0, none⟩ = some (.string (⟨#[]⟩ : ByteArray)) := (blk_cell BK244.out 0).trans rfl; have hcz23_1 : w22.cell? ⟨gb244, 1, none⟩ = some (.string (⟨#[]⟩ : ByteArray)) := (blk_cell BK244.out 1).trans rfl; have hfz23_0 := blk_frozen BK244.out 0; have hfz23_1 := blk_frozen BK244.out 1))
      refine bodyPost_ret (results_ct rfl _ _ gb244 53 #[.string (⟨#[]⟩ : ByteArray), .string (⟨#[]⟩ : ByteArray)] (0, 0) _ rfl (by (with_reducible repeat (first | refine blk_drewN ?_ _ | refine blk_drew ?_ | refine blk_alloc ?_ _)); refine blk_put (cs := #[.string (⟨#[]⟩ : ByteArray), .string (⟨#[]⟩ : ByteArray)]) ?_ 1 _ rfl; (with_reducible repeat (first | refine blk_drewN ?_ _ | refine blk_drew ?_ | refine blk_alloc ?_ _)); refine blk_put (cs := #[.string (⟨#[]⟩ : ByteArray), .string (⟨#[]⟩ : ByteArray)]) ?_ 0 _ rfl; (with_reducible repeat (first | refine blk_drewN ?_ _ | refine blk_drew ?_ | refine blk_alloc ?_ _)); exact BK244.out) Tryd.underlying53 rfl (by kernel_rfl)) rfl ?_
      exact ⟨by first | rfl | (simp [errW_none, errW_some] <;> rfl) | (simp [*, errW_none, errW_some] <;> rfl), by repeat (first | (with_reducible first | exact HB.out | apply below_alloc | apply pw_below_drewN | apply below_drew1 | refine below_set ?_ GE244.out | refine below_set ?_ GE249.out) | exact HB.out)⟩
  · replace c4 := Bool.eq_false_iff.mpr c4
    subst c4
    have H1 : (some ((⟨#[]⟩ : ByteArray), (⟨#[]⟩ : ByteArray), 2)) = some (r1, r2, r3) := by rw [if_neg (show ¬ (false = true) by decide)] at H; exact H
    clear H
    have H := H1
    clear H1
    simp only [Option.some.injEq, Prod.mk.injEq] at H
    obtain ⟨rfl, rfl, rfl⟩ := H
    go_enter Tryd.func77, Tryd.ntmps77
    go_wp2_with (first | ((with_reducible refine gate_dst (N := 2) rfl ?_); refine box_event ?hg (N := 2) ?hd (cs := #[.string (⟨#[]⟩ : ByteArray), .string (⟨#[]⟩ : ByteArray)]) (t := 53) ?hr ?_; (case hd => rfl); (case hg => rfl); (case hr => first | (go_simp; done) | (go_simp; rfl)); intro gb244 hg w24 hbox hb; have n0_ := Aside0.mk (below_step (by repeat (first | (with_reducible first | exact HB.out | apply below_alloc | apply pw_below_drewN | apply below_drew1) | exact HB.out)) hb); have n1_ := Aside0.mk (hbox); have n2_ := Aside0.mk ((by rw [hg]; exact (below_size (by repeat (first | (with_reducible first | exact HB.out | apply below_alloc | apply pw_below_drewN | apply below_drew1) | exact HB.out))) : w.heap.size ≤ gb244)); have n3_ := Aside0.mk ((by rw [hg]; exact (below_size (by repeat (first | (with_reducible first | exact HB.out | apply below_alloc | apply pw_below_drewN | apply below_drew1) | exact HB.out))) : w.heap.size ≤ gb244)); clear HB; have HB := n0_; have BK244 := n1_; have GW244 := n2_; have GE244 := n3_; clear n0_ n1_ n2_ n3_; clear hb hbox hg) | ((with_reducible refine gate_callee (f := 90) rfl ?_); refine goesL_ (some 10) rfl rfl Tryd.func90 (by kernel_rfl) rfl #[.string a0, .string (⟨#[58]⟩ : ByteArray)] rfl (by (try simp only [List.map_toArray, List.map_cons, List.map_nil]); first | done | rfl | (simp only [List.length_drop, List.length_take]; rfl)) ?_; (with_reducible refine (strings_Cut.calls a0 (⟨#[58]⟩ : ByteArray) t245 t246 false _ ?side1 A2.out).mono ?_); (case side1 => first | exact hG | exact TabOk.drewN hG _ | exact TabOk.drewN (TabOk.drewN hG _) _ | exact TabOk.below hG (by repeat (first | (with_reducible first | exact HB.out | apply below_alloc | apply pw_below_drewN | apply below_drew1 | refine below_set ?_ GE244.out) | exact HB.out))); rintro e w25 ⟨rfl, hb⟩; refine ⟨_, rfl, ?_⟩; have n0_ := Aside0.mk (blk_below (g := gb244) (o := .cells #[.string (⟨#[]⟩ : ByteArray), .string (⟨#[]⟩ : ByteArray)] 53 (0, 0)) (by (with_reducible repeat (first | refine blk_drewN ?_ _ | refine blk_drew ?_ | refine blk_alloc ?_ _)); exact BK244.out) hb); have n1_ := Aside0.mk (below_step (by repeat (first | (with_reducible first | exact HB.out | apply below_alloc | apply pw_below_drewN | apply below_drew1 | refine below_set ?_ GE244.out) | exact HB.out)) hb); clear BK244; clear HB; have BK244 := n0_; have HB := n1_; clear n0_ n1_; (try clear hb); (try clear hb2); (try clear hk); (try clear hi)) | ((with_reducible refine gate_callee (f := 91) rfl ?_); refine goesL_ (some 16) rfl rfl Tryd.func91 (by kernel_rfl) rfl #[.string t246] rfl (by (try simp only [List.map_toArray, List.map_cons, List.map_nil]); first | done | rfl | (simp only [List.length_drop, List.length_take]; rfl)) ?_; (with_reducible refine (octet_Trim.calls t246 t248 _ ?side1 A3.out).mono ?_); (case side1 => first | exact hG | exact TabOk.drewN hG _ | exact TabOk.drewN (TabOk.drewN hG _) _ | exact TabOk.below hG (by repeat (first | (with_reducible first | exact HB.out | apply below_alloc | apply pw_below_drewN | apply below_drew1 | refine below_set ?_ GE244.out) | exact HB.out))); rintro e w26 ⟨rfl, hb⟩; refine ⟨_, rfl, ?_⟩; have n0_ := Aside0.mk (blk_below (g := gb244) (o := .cells #[.string (⟨#[]⟩ : ByteArray), .string (⟨#[]⟩ : ByteArray)] 53 (0, 0)) (by (with_reducible repeat (first | refine blk_drewN ?_ _ | refine blk_drew ?_ | refine blk_alloc ?_ _)); exact BK244.out) hb); have n1_ := Aside0.mk (below_step (by repeat (first | (with_reducible first | exact HB.out | apply below_alloc | apply pw_below_drewN | apply below_drew1 | refine below_set ?_ GE244.out) | exact HB.out)) hb); clear BK244; clear HB; have BK244 := n0_; have HB := n1_; clear n0_ n1_; (try clear hb); (try clear hb2); (try clear hk); (try clear hi)) | ((with_reducible refine gate_dst (N := 7) rfl ?_); refine box_event ?hg (N := 7) ?hd (cs := #[.string (⟨#[]⟩ : ByteArray), .string (⟨#[]⟩ : ByteArray)]) (t := 53) ?hr ?_; (case hd => rfl); (case hg => rfl); (case hr => first | (go_simp; done) | (go_simp; rfl)); intro gb249 hg w27 hbox hb; have n0_ := Aside0.mk (blk_below (g := gb244) (o := .cells #[.string (⟨#[]⟩ : ByteArray), .string (⟨#[]⟩ : ByteArray)] 53 (0, 0)) (by (with_reducible repeat (first | refine blk_drewN ?_ _ | refine blk_drew ?_ | refine blk_alloc ?_ _)); exact BK244.out) hb); have n1_ := Aside0.mk (below_step (by repeat (first | (with_reducible first | exact HB.out | apply below_alloc | apply pw_below_drewN | apply below_drew1 | refine below_set ?_ GE244.out) | exact HB.out)) hb); have n2_ := Aside0.mk (hbox); have n3_ := Aside0.mk ((by rw [hg]; exact (below_size (by repeat (first | (with_reducible first | exact HB.out | apply below_alloc | apply pw_below_drewN | apply below_drew1 | refine below_set ?_ GE244.out) | exact HB.out))) : w.heap.size ≤ gb249)); have n4_ := Aside0.mk ((by rw [hg]; exact (below_size (by repeat (first | (with_reducible first | exact HB.out | apply below_alloc | apply pw_below_drewN | apply below_drew1 | refine below_set ?_ GE244.out) | exact HB.out))) : w.heap.size ≤ gb249)); have n5_ := Aside0.mk ((by rw [hg]; exact Nat.ne_of_lt (blk_lt (g := gb244) (o := .cells #[.string (⟨#[]⟩ : ByteArray), .string (⟨#[]⟩ : ByteArray)] 53 (0, 0)) (by (with_reducible repeat (first | refine blk_drewN ?_ _ | refine blk_drew ?_ | refine blk_alloc ?_ _)); exact BK244.out)) : gb244 ≠ gb249)); have n6_ := Aside0.mk ((by rw [hg]; exact Nat.ne_of_gt (blk_lt (g := gb244) (o := .cells #[.string (⟨#[]⟩ : ByteArray), .string (⟨#[]⟩ : ByteArray)] 53 (0, 0)) (by (with_reducible repeat (first | refine blk_drewN ?_ _ | refine blk_drew ?_ | refine blk_alloc ?_ _)); exact BK244.out)) : gb249 ≠ gb244)); clear BK244; clear HB; have BK244 := n0_; have HB := n1_; have BK249 := n2_; have GW249 := n3_; have GE249 := n4_; have NB244_249 := n5_; have NB249_244 := n6_; clear n0_ n1_ n2_ n3_ n4_ n5_ n6_; clear hb hbox hg; have hnb28 := NB249_244.out; have hnc28 := NB244_249.out; have hcz29_0 : w27.cell? ⟨gb249, 0, none⟩ = some (.string (⟨#[]⟩ : ByteArray)) := (blk_cell BK249.out 0).trans rfl; have hcz29_1 : w27.cell? ⟨gb249, 1, none⟩ = some (.string (⟨#[]⟩ : ByteArray)) := (blk_cell BK249.out 1).trans rfl; have hfz29_0 := blk_frozen BK249.out 0; have hfz29_1 := blk_frozen BK249.out 1; have hcz30_0 : w27.cell? ⟨gb244, 0, none⟩ = some (.string (⟨#[]⟩ : ByteArray)) := (blk_cell BK244.out 0).trans rfl; have hcz30_1 : w27.cell? ⟨gb244, 1, none⟩ = some (.string (⟨#[]⟩ : ByteArray)) := (blk_cell BK244.out 1).trans rfl; have hfz30_0 := blk_frozen BK244.out 0; have hfz30_1 := blk_frozen BK244.out 1))
    refine bodyPost_ret (results_ct rfl _ _ gb244 53 #[.string (⟨#[]⟩ : ByteArray), .string (⟨#[]⟩ : ByteArray)] (0, 0) _ rfl (by (with_reducible repeat (first | refine blk_drewN ?_ _ | refine blk_drew ?_ | refine blk_alloc ?_ _)); refine blk_put (cs := #[.string (⟨#[]⟩ : ByteArray), .string (⟨#[]⟩ : ByteArray)]) ?_ 1 _ rfl; (with_reducible repeat (first | refine blk_drewN ?_ _ | refine blk_drew ?_ | refine blk_alloc ?_ _)); refine blk_put (cs := #[.string (⟨#[]⟩ : ByteArray), .string (⟨#[]⟩ : ByteArray)]) ?_ 0 _ rfl; (with_reducible repeat (first | refine blk_drewN ?_ _ | refine blk_drew ?_ | refine blk_alloc ?_ _)); refine blk_far ?_ NB244_249.out _; (with_reducible repeat (first | refine blk_drewN ?_ _ | refine blk_drew ?_ | refine blk_alloc ?_ _)); refine blk_far ?_ NB244_249.out _; (with_reducible repeat (first | refine blk_drewN ?_ _ | refine blk_drew ?_ | refine blk_alloc ?_ _)); exact BK244.out) Tryd.underlying53 rfl (by kernel_rfl)) rfl ?_
    exact ⟨by first | rfl | (simp [errW_none, errW_some] <;> rfl) | (simp [*, errW_none, errW_some] <;> rfl), by repeat (first | (with_reducible first | exact HB.out | apply below_alloc | apply pw_below_drewN | apply below_drew1 | refine below_set ?_ GE244.out | refine below_set ?_ GE249.out) | exact HB.out)⟩
end Go.Proofs.YtmmbpbgcobmifaaDoor.Pr
end
section
namespace Go.Proofs.YtmmbpbgcobmifaaDoor.Pr
open Go.RowKit Go.Proofs.YtmmbpbgcobmifaaDoorH Go.Proofs.YtmmbpbgcobmifaaDoorW.PrintWords Go.Proofs.YtmmbpbgcobmifaaDoorW.PrintLast Go.Proofs.YtmmbpbgcobmifaaDoorW.PrintMore
attribute [local go_sem] max2_int min2_int max_two min_two max_three min_three max_four min_four   -- for this text's walks alone
set_option linter.unusedVariables false
set_option linter.unusedSimpArgs false
mutual
def catchpitref05_Parse.j1 : Nat → ByteArray → Int → Option (ByteArray × ByteArray × Bool)
  | 0, _, _ => none
  | k + 1, x0, x4 => if x4 = (x0.size : Int) then (some ((⟨#[]⟩ : ByteArray), (⟨#[]⟩ : ByteArray), false)) else (if 0 ≤ x4 then (if x4 ≤ (x0.size : Int) then ((catchpitref02_Token.f k (x0.extract 0 (x4 : Int).toNat)).bind fun t107 => (if t107 = true then (if 0 ≤ (wrap64 (x4 + 1)) then (if (wrap64 (x4 + 1)) ≤ (x0.size : Int) then ((catchpitref02_Text.f k (x0.extract ((wrap64 (x4 + 1)) : Int).toNat x0.size)).bind fun t108 => (if t108 = true then ((catchpitref02_Trim.f k (x0.extract ((wrap64 (x4 + 1)) : Int).toNat x0.size)).bind fun t109 => (some (x0.extract 0 (x4 : Int).toNat, t109, true))) else (some ((⟨#[]⟩ : ByteArray), (⟨#[]⟩ : ByteArray), false)))) else (none)) else (none)) else (some ((⟨#[]⟩ : ByteArray), (⟨#[]⟩ : ByteArray), false)))) else (none)) else (none))
def catchpitref05_Parse.l0 : Nat → ByteArray → Int → Option (ByteArray × ByteArray × Bool)
  | 0, _, _ => none
  | k + 1, x0, x4 => if x4 < (x0.size : Int) then (if 0 ≤ x4 then (if (bt x0 x4) = 58 then (catchpitref05_Parse.j1 k x0 x4) else (catchpitref05_Parse.l0 k x0 (wrap64 (x4 + 1)))) else (none)) else (catchpitref05_Parse.j1 k x0 x4)
end
def catchpitref05_Parse.f (k : Nat) (a0 : ByteArray) : Option (ByteArray × ByteArray × Bool) := catchpitref05_Parse.l0 k a0 0
theorem catchpitref05_Parse.mono_l : ∀ k, (∀ y0 y1, LeO (catchpitref05_Parse.j1 k y0 y1) (catchpitref05_Parse.j1 (k + 1) y0 y1)) ∧ (∀ y0 y1, LeO (catchpitref05_Parse.l0 k y0 y1) (catchpitref05_Parse.l0 (k + 1) y0 y1))
  | 0 => ⟨fun _ _ r h => by simp [catchpitref05_Parse.j1] at h, fun _ _ r h => by simp [catchpitref05_Parse.l0] at h⟩
  | k + 1 => by
    obtain ⟨ih0, ih1⟩ := catchpitref05_Parse.mono_l k
    refine ⟨?_, ?_⟩
    · intro y0 y1
      unfold catchpitref05_Parse.j1
      repeat' first
      | (with_reducible exact ih0 _ _)
      | (with_reducible exact ih1 _ _)
      | (with_reducible exact catchpitref02_Text.mono _ _)
      | (with_reducible exact catchpitref02_Token.mono _ _)
      | (with_reducible exact catchpitref02_Trim.mono _ _)
      | (with_reducible exact LeO.refl _)
      | (with_reducible exact LeO.none _)
      | (with_reducible refine LeO.ite ?_ ?_)
      | (with_reducible refine LeO.bind ?_ (fun _ => ?_))
      | exact ih0 _ _
      | exact ih1 _ _
      | exact catchpitref02_Text.mono _ _
      | exact catchpitref02_Token.mono _ _
      | exact catchpitref02_Trim.mono _ _
      | exact LeO.none _
      | refine LeO.ite ?_ ?_
      | refine LeO.bind ?_ (fun _ => ?_)
    · intro y0 y1
      unfold catchpitref05_Parse.l0
      repeat' first
      | (with_reducible exact ih0 _ _)
      | (with_reducible exact ih1 _ _)
      | (with_reducible exact catchpitref02_Text.mono _ _)
      | (with_reducible exact catchpitref02_Token.mono _ _)
      | (with_reducible exact catchpitref02_Trim.mono _ _)
      | (with_reducible exact LeO.refl _)
      | (with_reducible exact LeO.none _)
      | (with_reducible refine LeO.ite ?_ ?_)
      | (with_reducible refine LeO.bind ?_ (fun _ => ?_))
      | exact ih0 _ _
      | exact ih1 _ _
      | exact catchpitref02_Text.mono _ _
      | exact catchpitref02_Token.mono _ _
      | exact catchpitref02_Trim.mono _ _
      | exact LeO.none _
      | refine LeO.ite ?_ ?_
      | refine LeO.bind ?_ (fun _ => ?_)
theorem catchpitref05_Parse.mono : ∀ a0 k, LeO (catchpitref05_Parse.f k a0) (catchpitref05_Parse.f (k + 1) a0) := by
  intro a0 k
  obtain ⟨ih0, ih1⟩ := catchpitref05_Parse.mono_l k
  unfold catchpitref05_Parse.f
  repeat' first
      | (with_reducible exact ih0 _ _)
      | (with_reducible exact ih1 _ _)
      | (with_reducible exact catchpitref02_Text.mono _ _)
      | (with_reducible exact catchpitref02_Token.mono _ _)
      | (with_reducible exact catchpitref02_Trim.mono _ _)
      | (with_reducible exact LeO.refl _)
      | (with_reducible exact LeO.none _)
      | (with_reducible refine LeO.ite ?_ ?_)
      | (with_reducible refine LeO.bind ?_ (fun _ => ?_))
      | exact ih0 _ _
      | exact ih1 _ _
      | exact catchpitref02_Text.mono _ _
      | exact catchpitref02_Token.mono _ _
      | exact catchpitref02_Trim.mono _ _
      | exact LeO.none _
      | refine LeO.ite ?_ ?_
      | refine LeO.bind ?_ (fun _ => ?_)
def catchpitref05_Parse.B6 : List Nat := [0, 0, 3, 0, 0, 16, 56, 120, 255, 511, 1023]
end Go.Proofs.YtmmbpbgcobmifaaDoor.Pr
end
section
namespace Go.Proofs.YtmmbpbgcobmifaaDoor.Pr
open Go.RowKit Go.Proofs.YtmmbpbgcobmifaaDoorH Go.Proofs.YtmmbpbgcobmifaaDoorW.PrintWords Go.Proofs.YtmmbpbgcobmifaaDoorW.PrintLast Go.Proofs.YtmmbpbgcobmifaaDoorW.PrintMore
attribute [local go_sem] max2_int min2_int max_two min_two max_three min_three max_four min_four   -- for this text's walks alone
set_option linter.unusedVariables false
set_option linter.unusedSimpArgs false
def catchpitref05_Right.f (k : Nat) (a0_0 : ByteArray) (a0_1 : ByteArray) : Option (Bool) := (catchpitref02_Token.f k a0_0).bind fun t286 => (if t286 = true then ((catchpitref02_Value.f k a0_1).bind fun t287 => (some t287)) else (some false))
theorem catchpitref05_Right.mono : ∀ a0 a1 k, LeO (catchpitref05_Right.f k a0 a1) (catchpitref05_Right.f (k + 1) a0 a1) := by
  intro a0 a1 k
  unfold catchpitref05_Right.f
  repeat' first
      | (with_reducible exact catchpitref02_Token.mono _ _)
      | (with_reducible exact catchpitref02_Value.mono _ _)
      | (with_reducible exact LeO.refl _)
      | (with_reducible exact LeO.none _)
      | (with_reducible refine LeO.ite ?_ ?_)
      | (with_reducible refine LeO.bind ?_ (fun _ => ?_))
      | exact catchpitref02_Token.mono _ _
      | exact catchpitref02_Value.mono _ _
      | exact LeO.none _
      | refine LeO.ite ?_ ?_
      | refine LeO.bind ?_ (fun _ => ?_)
end Go.Proofs.YtmmbpbgcobmifaaDoor.Pr
end
section
namespace Go.Proofs.YtmmbpbgcobmifaaDoor.Pr
end Go.Proofs.YtmmbpbgcobmifaaDoor.Pr
namespace Go.Proofs.YtmmbpbgcobmifaaDoorH
open Go.RowKit Go.Proofs.YtmmbpbgcobmifaaDoorW.PrintWords Go.Proofs.YtmmbpbgcobmifaaDoorW.PrintLast Go.Proofs.YtmmbpbgcobmifaaDoorW.PrintMore Go.Proofs.YtmmbpbgcobmifaaDoor.Pr
def colon (s : ByteArray) : Nat := s.data.toList.findIdx (· == 58)
theorem indexByte_findIdx : ∀ (l : List UInt8) (c : UInt8), Lib.indexByte l c = if l.findIdx (· == c) < l.length then ((l.findIdx (· == c) : Nat) : Int) else -1
  | [], c => rfl
  | b :: l, c => by
    unfold Lib.indexByte
    rw [List.findIdx_cons, indexByte_findIdx l c]
    cases h : b == c with
    | true => simp
    | false =>
      simp only [cond_false, List.length_cons]
      by_cases h2 : l.findIdx (· == c) < l.length
      · have e1 : (((List.findIdx (· == c) l : Nat) : Int) == -1) = false := by rw [beq_eq_false_iff_ne]; omega
        have e2 : List.findIdx (· == c) l + 1 < l.length + 1 := by omega
        simp only [if_pos h2, if_pos e2, e1, Bool.false_eq_true, if_false]
        omega
      · have e2 : ¬ List.findIdx (· == c) l + 1 < l.length + 1 := by omega
        simp only [if_neg h2, if_neg e2]
        rfl
theorem cut_colon (s : ByteArray) : Lib.cut s.data.toList (⟨#[58]⟩ : ByteArray).data.toList =
    if colon s < s.size then (s.data.toList.take (colon s), s.data.toList.drop (colon s + 1), true) else (s.data.toList, [], false) := by
  have e : Lib.index s.data.toList (⟨#[58]⟩ : ByteArray).data.toList = if colon s < s.size then ((colon s : Nat) : Int) else -1 := by
    rw [size_eq_length]
    exact (Lib.index_one _ _).trans (indexByte_findIdx _ _)
  unfold Lib.cut
  rw [e]
  by_cases h : colon s < s.size
  · rw [if_pos h, if_pos h, if_pos (by omega)]
    rfl
  · rw [if_neg h, if_neg h, if_neg (by omega)]
def nameOf (s : ByteArray) : ByteArray := s.extract 0 (colon s)
def restOf (s : ByteArray) : ByteArray := s.extract (colon s + 1) s.size
def lineB (s : ByteArray) : Bool := decide (colon s < s.size) && (tokB (nameOf s) && allB textI (restOf s))
def parseF (s : ByteArray) : ByteArray := if lineB s then nameOf s else ⟨#[]⟩
def parseV (s : ByteArray) : ByteArray := if lineB s then trimS (restOf s) else ⟨#[]⟩
theorem nameOf_size (s : ByteArray) : (nameOf s).size ≤ s.size := by
  rw [size_eq_length, size_eq_length, nameOf, extract_to, List.length_take]
  omega
theorem restOf_size (s : ByteArray) : (restOf s).size ≤ s.size := by
  rw [size_eq_length, size_eq_length, restOf, extract_from, List.length_drop]
  omega
theorem all_dropWhile {p q : UInt8 → Bool} (hpq : ∀ x, p x = true → q x = true) : ∀ l : List UInt8, (l.dropWhile p).all q = l.all q
  | [] => rfl
  | a :: l => by
    cases h : p a with
    | true => rw [List.dropWhile_cons_of_pos h, all_dropWhile hpq l, List.all_cons, hpq a h, Bool.true_and]
    | false => rw [List.dropWhile_cons_of_neg (by simp [h])]
theorem all_rtrim {p q : UInt8 → Bool} (hpq : ∀ x, p x = true → q x = true) (l : List UInt8) : (rtrim p l).all q = l.all q := by
  unfold rtrim
  rw [List.all_reverse, all_dropWhile hpq, List.all_reverse]
theorem text_trim (s : ByteArray) : allB textI (trimS s) = allB textI s := by
  have h : ∀ x : UInt8, blankU x = true → textI (x.toNat : Int) = true := fun x hx => by
    unfold textI
    rw [blankU_int, hx, Bool.true_or]
  unfold allB
  rw [trimS_data, trimL_eq, all_dropWhile h, all_rtrim h]
def valueB (s : ByteArray) : Bool := allB textI s && decide (trimS s = s)
def rightB (a b : ByteArray) : Bool := tokB a && valueB b
theorem value_trim (s : ByteArray) : valueB (trimS s) = allB textI s := by
  unfold valueB
  rw [text_trim, trimS_idem]
  simp
theorem octet_Value_eq (a : ByteArray) (hs : a.size ≤ 140737488355328) : octet_Value.f a = some (valueB a) := by
  unfold octet_Value.f octet_Text.f octet_Trim.f
  simp only [if_pos hs, Option.bind_some]
  unfold valueB
  cases allB textI a with
  | false => rfl
  | true => rw [if_pos rfl, beq_toList, Bool.true_and]
theorem field_Right_eq (a b : ByteArray) (ha : a.size ≤ 140737488355328) (hb : b.size ≤ 140737488355328) : field_Right.f a b = some (rightB a b) := by
  unfold field_Right.f octet_Token.f
  rw [if_pos ha, Option.bind_some, octet_Value_eq b hb, Option.bind_some]
  unfold rightB
  cases tokB a with
  | false => rfl
  | true => rw [if_pos rfl, Bool.true_and]
theorem field_Parse_eq (s : ByteArray) (hs : s.size < 4294967281) : field_Parse.f s = some (parseF s, parseV s, if lineB s then 0 else 2) := by
  unfold field_Parse.f strings_Cut.f octet_Trim.f
  rw [if_pos hs, Option.bind_some, cut_colon]
  by_cases hc : colon s < s.size
  · rw [if_pos hc]
    have e1 : (⟨(s.data.toList.take (colon s)).toArray⟩ : ByteArray) = nameOf s := bytes_ext (by rw [nameOf, extract_to])
    have e2 : (⟨(s.data.toList.drop (colon s + 1)).toArray⟩ : ByteArray) = restOf s := bytes_ext (by rw [restOf, extract_from])
    have h1 := nameOf_size s
    have h2 := restOf_size s
    have h3 := trimS_size (restOf s)
    simp only [e1, e2]
    rw [if_pos (by omega), Option.bind_some, if_pos trivial, field_Right_eq _ _ (by omega) (by omega), Option.bind_some]
    have hl : lineB s = rightB (nameOf s) (trimS (restOf s)) := by
      unfold lineB rightB
      rw [value_trim, decide_eq_true hc, Bool.true_and]
    unfold parseF parseV
    rw [hl]
    cases rightB (nameOf s) (trimS (restOf s)) <;> rfl
  · rw [if_neg hc]
    have hl : lineB s = false := by
      unfold lineB
      rw [decide_eq_false hc, Bool.false_and]
    have h0 : (⟨#[]⟩ : ByteArray).size ≤ 140737488355328 := by decide
    unfold parseF parseV
    rw [hl]
    simp only [if_pos h0, Option.bind_some, Bool.false_eq_true, if_false]
end Go.Proofs.YtmmbpbgcobmifaaDoorH
end
