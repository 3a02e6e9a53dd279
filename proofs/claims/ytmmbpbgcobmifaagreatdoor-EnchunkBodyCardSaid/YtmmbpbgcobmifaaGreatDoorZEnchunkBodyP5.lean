import Derived.Test.YtmmbpbgcobmifaaGreatDoorZEnchunkBodyP4
import Derived.Test.YtmmbpbgcobmifaaGreatDoorZEnchunkBodyP1
import Derived.Test.YtmmbpbgcobmifaaGreatDoorZEnchunkBodyP3
import Derived.RangeFuncFrom
import Derived.RangeFuncWrites
import Derived.RangeFuncBox
import Derived.RangeFuncNested
import Derived.RangeFuncBound
import Derived.RangeFuncCalls
import Derived.RangeFuncLeaves
import Derived.RangeFuncKeeps
import Derived.Shelf.RegionOpen
import Derived.WalkKit
import Derived.OwnWalkIn
import Derived.TacticsInMore
import Derived.LoopNIn
import Derived.LoopIn
import Derived.Laws.EntriesVeiled
import Derived.Laws.NewBlocks
namespace Go.Proofs.YtmmbpbgcobmifaaGreatDoorW.PrintWords
end Go.Proofs.YtmmbpbgcobmifaaGreatDoorW.PrintWords
namespace Go.Proofs.YtmmbpbgcobmifaaGreatDoorW.PrintLast
end Go.Proofs.YtmmbpbgcobmifaaGreatDoorW.PrintLast
namespace Go.Proofs.YtmmbpbgcobmifaaGreatDoorW.PrintMore
end Go.Proofs.YtmmbpbgcobmifaaGreatDoorW.PrintMore
namespace Go.Proofs.YtmmbpbgcobmifaaGreatDoorM
end Go.Proofs.YtmmbpbgcobmifaaGreatDoorM
namespace Go.Proofs.YtmmbpbgcobmifaaGreatDoor.Pr
end Go.Proofs.YtmmbpbgcobmifaaGreatDoor.Pr
namespace Go.Proofs.YtmmbpbgcobmifaaGreatDoorH
end Go.Proofs.YtmmbpbgcobmifaaGreatDoorH
section
namespace Go.Proofs.YtmmbpbgcobmifaaGreatDoorH
open Go Go.RowKit Go.Shelf Go.Proofs.YtmmbpbgcobmifaaGreatDoorW.PrintWords Go.Proofs.YtmmbpbgcobmifaaGreatDoorW.PrintLast Go.Proofs.YtmmbpbgcobmifaaGreatDoorW.PrintMore Go.Proofs.YtmmbpbgcobmifaaGreatDoorM
attribute [local go_sem] Oper.semAt_some
theorem linesB_flat : ∀ r : List Int, (linesB r).flatten = r
  | [] => rfl
  | c :: r => by
    have ih := linesB_flat r
    rw [linesB]
    by_cases hc : c = 10
    · rw [if_pos hc, List.flatten_cons, ih, hc]; rfl
    · rw [if_neg hc]
      cases h : linesB r with
      | nil => rw [h] at ih; rw [← ih]; rfl
      | cons l ls =>
        rw [h] at ih
        rw [← ih]; rfl
theorem linesB_ne : ∀ r : List Int, ∀ l ∈ linesB r, l ≠ []
  | [], l, h => absurd h List.not_mem_nil
  | c :: r, l, h => by
    have ih := linesB_ne r
    rw [linesB] at h
    by_cases hc : c = 10
    · rw [if_pos hc] at h
      rcases List.mem_cons.1 h with rfl | h
      · simp
      · exact ih l h
    · rw [if_neg hc] at h
      cases h2 : linesB r with
      | nil => rw [h2] at h; rcases List.mem_singleton.1 h with rfl; simp
      | cons l2 ls =>
        rw [h2] at h ih
        rcases List.mem_cons.1 h with rfl | h
        · simp
        · exact ih l (List.mem_cons_of_mem _ h)
def sumL (l : List (Option Addr × List Int)) : Nat := (l.map Prod.snd).flatten.length
theorem sumL_snoc (l : List (Option Addr × List Int)) (x : Option Addr × List Int) : sumL (l ++ [x]) = sumL l + x.2.length := by
  unfold sumL; simp
theorem sumL_le {r : List Int} {l : List (Option Addr × List Int)} (h : l.map Prod.snd <+: linesB r) : sumL l ≤ r.length := by
  obtain ⟨q, hq⟩ := h
  have := congrArg (fun z => (List.flatten z).length) hq
  simp only [List.flatten_append, List.length_append, linesB_flat] at this
  unfold sumL
  omega
theorem count_le : ∀ (l : List (List Int)), (∀ x ∈ l, x ≠ []) → l.length ≤ l.flatten.length
  | [], _ => Nat.le_refl _
  | x :: l, h => by
    have := count_le l (fun y hy => h y (List.mem_cons_of_mem _ hy))
    have := List.length_pos_iff.2 (h x List.mem_cons_self)
    simp only [List.length_cons, List.flatten_cons, List.length_append]
    omega
theorem pre_count {r : List Int} {l : List (Option Addr × List Int)} (h : l.map Prod.snd <+: linesB r) : l.length ≤ sumL l := by
  have := count_le (l.map Prod.snd) (fun x hx => linesB_ne r x (h.subset hx))
  rw [List.length_map] at this
  exact this
structure BeyI (w : World) (e0 e1 e2 : Int) (vr va vl vs : Int) (W : World) : Prop where
  r : Boxed W (w.heap.size + 1) 3 (.int .i64 vr)
  a : Boxed W (w.heap.size + 2) 3 (.int .i64 va)
  l : Boxed W (w.heap.size + 3) 3 (.int .i64 vl)
  s : Boxed W (w.heap.size + 4) 3 (.int .i64 vs)
  m : W.heap[w.heap.size]? = some (.cells #[.int .i64 e0, .int .i64 e1, .int .i64 e2] 46 (0, 0))
  b : Below w.heap.size w W
theorem BeyI.grown {w A C : World} {e0 e1 e2 vr va vl vs : Int} {row : Option Nat} (h : BeyI w e0 e1 e2 vr va vl vs A) (hg : A.grownBy C row) (hr : ∀ r, row = some r → w.heap.size + 5 ≤ r) : BeyI w e0 e1 e2 vr va vl vs C :=
  ⟨h.r.kept hg (fun e => by have := hr _ e.symm; omega), h.a.kept hg (fun e => by have := hr _ e.symm; omega), h.l.kept hg (fun e => by have := hr _ e.symm; omega), h.s.kept hg (fun e => by have := hr _ e.symm; omega),
    (hg.block _ (blk_lt h.m) (fun e => by have := hr _ e.symm; omega)).trans h.m, h.b.grown hg (Nat.le_of_lt (blk_lt h.m)) (fun k e => by have := hr _ e; omega)⟩
theorem BeyI.abd {α : Type} {w : World} {Z : Nat → Prop} {B : Nat} (e0 e1 e2 : Int) (vr va vl vs : α → Int) (hB : w.heap.size + 5 ≤ B) (hZ : ∀ r, Z r → w.heap.size + 5 ≤ r) : Abd Z B (fun (x : α) _ W => BeyI w e0 e1 e2 (vr x) (va x) (vl x) (vs x) W) :=
  fun _ _ _ _ _ hs hg hr => hs.grown hg (fun r e => (hr r e).elim (fun h => Nat.le_trans hB h.1) (hZ r))
theorem BeyI.setR {w W : World} {e0 e1 e2 vr va vl vs : Int} (h : BeyI w e0 e1 e2 vr va vl vs W) (v : Int) : BeyI w e0 e1 e2 v va vl vs (W.setCell ⟨w.heap.size + 1, 0, none⟩ (.int .i64 v)) :=
  ⟨h.r.set _, h.a.other (by omega) _, h.l.other (by omega) _, h.s.other (by omega) _, (Below.heap_setCell _ ⟨w.heap.size + 1, 0, none⟩ _ _ (by simp)).trans h.m, h.b.setCell (p := ⟨w.heap.size + 1, 0, none⟩) (by show w.heap.size ≤ w.heap.size + 1; omega) _⟩
theorem BeyI.setA {w W : World} {e0 e1 e2 vr va vl vs : Int} (h : BeyI w e0 e1 e2 vr va vl vs W) (v : Int) : BeyI w e0 e1 e2 vr v vl vs (W.setCell ⟨w.heap.size + 2, 0, none⟩ (.int .i64 v)) :=
  ⟨h.r.other (by omega) _, h.a.set _, h.l.other (by omega) _, h.s.other (by omega) _, (Below.heap_setCell _ ⟨w.heap.size + 2, 0, none⟩ _ _ (by simp)).trans h.m, h.b.setCell (p := ⟨w.heap.size + 2, 0, none⟩) (by show w.heap.size ≤ w.heap.size + 2; omega) _⟩
theorem BeyI.setL {w W : World} {e0 e1 e2 vr va vl vs : Int} (h : BeyI w e0 e1 e2 vr va vl vs W) (v : Int) : BeyI w e0 e1 e2 vr va v vs (W.setCell ⟨w.heap.size + 3, 0, none⟩ (.int .i64 v)) :=
  ⟨h.r.other (by omega) _, h.a.other (by omega) _, h.l.set _, h.s.other (by omega) _, (Below.heap_setCell _ ⟨w.heap.size + 3, 0, none⟩ _ _ (by simp)).trans h.m, h.b.setCell (p := ⟨w.heap.size + 3, 0, none⟩) (by show w.heap.size ≤ w.heap.size + 3; omega) _⟩
theorem BeyI.setS {w W : World} {e0 e1 e2 vr va vl vs : Int} (h : BeyI w e0 e1 e2 vr va vl vs W) (v : Int) : BeyI w e0 e1 e2 vr va vl v (W.setCell ⟨w.heap.size + 4, 0, none⟩ (.int .i64 v)) :=
  ⟨h.r.other (by omega) _, h.a.other (by omega) _, h.l.other (by omega) _, h.s.set _, (Below.heap_setCell _ ⟨w.heap.size + 4, 0, none⟩ _ _ (by simp)).trans h.m, h.b.setCell (p := ⟨w.heap.size + 4, 0, none⟩) (by show w.heap.size ≤ w.heap.size + 4; omega) _⟩
theorem spares_cell {w W2 W : World} (g : Option Nat) (j : Nat) (v : Value) (h1 : 1 ≤ j) (h4 : j ≤ 4) (hW2 : w.heap.size + 6 ≤ W2.heap.size) :
    Spares (fun k => W2.heap.size ≤ k ∨ Kz1 w.heap.size (w.heap.size + 5) k) g g W (W.setCell ⟨w.heap.size + j, 0, none⟩ v) :=
  Spares.turned (grownBy_setCell' W (w.heap.size + j) v) (fun r e hk => by cases e; unfold Kz1 at hk; omega)
theorem beyL_step {e1 e2 : Nat} {ln : List Int} {ls : List (List Int)} {z k : Nat} :
    beyL e1 e2 (ln :: ls) z k = if ln.getD 0 0 = 13 then -1 else if e1 < k + 1 then (z : Int) else if e2 < z + ln.length then (e2 : Int) else beyL e1 e2 ls (z + ln.length) (k + 1) := rfl
def Sofar (e1 e2 : Nat) (pre : List (Option Addr × List Int)) (v : List (List Int) → Int) : Prop := ∀ rest, beyL e1 e2 (pre.map Prod.snd ++ rest) 0 0 = v rest
theorem Sofar.snoc {e1 e2 : Nat} {pre : List (Option Addr × List Int)} {x : Option Addr × List Int} {v : List (List Int) → Int} {S P : Nat} (h : Sofar e1 e2 pre fun rest => beyL e1 e2 rest S P) (hv : ∀ rest, beyL e1 e2 (x.2 :: rest) S P = v rest) : Sofar e1 e2 (pre ++ [x]) v := fun rest => by
  rw [List.map_append, List.append_assoc]
  exact (h _).trans (hv rest)
theorem results_cellB {fn : Func} {p : Tmp} {ty : TypeId} (h : fn.results = #[.cell p ty]) (tmps : Array Value) (P : Program) (w : World) (a : Addr) (v : Value)
    (hp : tmps.getD p undef = .pointer (some a)) (hA : (isAgg ty).run P w = .ok false w) (hc : w.cell? a = some v) : (results fn tmps).run P w = .ok v w := by
  rw [Array.getD_eq_getD_getElem?] at hp
  simp only [results, h]
  simp [Sem.run_bind, Result.andThen, hp, loadVar, hA, asAddr, go_sem, hc]
theorem alloc_keep {w : World} {k : Nat} {o : Obj} (o' : Obj) (h : w.heap[k]? = some o) : (w.alloc o').heap[k]? = some o :=
  ((below_alloc (Below.refl w.heap.size w) o').block k (Array.getElem?_eq_some_iff.1 h).1).trans h
theorem beyond_start (w : World) (e0 e1 e2 : Int) (A : Option Addr) (n c : Nat) :
    ∀ W, W = (((((w.alloc (.cells #[.int .i64 e0, .int .i64 e1, .int .i64 e2] 46)).alloc (.cells #[.int .i64 0] 3)).alloc (.cells #[.int .i64 0] 3)).alloc (.cells #[.int .i64 0] 3)).alloc (.cells #[.int .i64 0] 3)).alloc (.cells #[.slice A n c] 25) →
    W.heap.size = w.heap.size + 6 ∧ BeyI w e0 e1 e2 0 0 0 0 W ∧ Boxed W (w.heap.size + 5) 25 (.slice A n c) := by
  rintro W rfl
  have hs : ∀ (W : World) (o : Obj), (W.alloc o).heap.size = W.heap.size + 1 := fun W o => World.size_alloc W o
  refine ⟨by simp only [hs], ⟨?_, ?_, ?_, ?_, ?_, ?_⟩, ?_⟩
  · exact alloc_keep _ (alloc_keep _ (alloc_keep _ (alloc_keep _ (by have := World.alloc_heap_new (w.alloc (.cells #[.int .i64 e0, .int .i64 e1, .int .i64 e2] 46)) (.cells #[.int .i64 0] 3); rwa [hs] at this))))
  · exact alloc_keep _ (alloc_keep _ (alloc_keep _ (by have := World.alloc_heap_new ((w.alloc (.cells #[.int .i64 e0, .int .i64 e1, .int .i64 e2] 46)).alloc (.cells #[.int .i64 0] 3)) (.cells #[.int .i64 0] 3); rwa [hs, hs] at this)))
  · exact alloc_keep _ (alloc_keep _ (by have := World.alloc_heap_new (((w.alloc (.cells #[.int .i64 e0, .int .i64 e1, .int .i64 e2] 46)).alloc (.cells #[.int .i64 0] 3)).alloc (.cells #[.int .i64 0] 3)) (.cells #[.int .i64 0] 3); rwa [hs, hs, hs] at this))
  · exact alloc_keep _ (by have := World.alloc_heap_new ((((w.alloc (.cells #[.int .i64 e0, .int .i64 e1, .int .i64 e2] 46)).alloc (.cells #[.int .i64 0] 3)).alloc (.cells #[.int .i64 0] 3)).alloc (.cells #[.int .i64 0] 3)) (.cells #[.int .i64 0] 3); rwa [hs, hs, hs, hs] at this)
  · exact alloc_keep _ (alloc_keep _ (alloc_keep _ (alloc_keep _ (alloc_keep _ (World.alloc_heap_new w _)))))
  · exact below_alloc (below_alloc (below_alloc (below_alloc (below_alloc (below_alloc (Below.refl _ _) _) _) _) _) _) _
  · have := World.alloc_heap_new (((((w.alloc (.cells #[.int .i64 e0, .int .i64 e1, .int .i64 e2] 46)).alloc (.cells #[.int .i64 0] 3)).alloc (.cells #[.int .i64 0] 3)).alloc (.cells #[.int .i64 0] 3)).alloc (.cells #[.int .i64 0] 3)) (.cells #[.slice A n c] 25)
    rwa [hs, hs, hs, hs, hs] at this
set_option maxRecDepth 100000 in
set_option maxHeartbeats 4000000 in
theorem beyond_in (n : Nat) (hn : 4 ≤ n) (A : Option Addr) (c : Nat) (r : List Int) (hr : ∀ x ∈ r, 0 ≤ x ∧ x ≤ 255) (hrl : r.length ≤ 1073741824) (hrc : r.length ≤ c) (e0 : Int) (e1 e2 : Nat) (h1 : e1 ≤ 65536) (h2 : e2 ≤ 65536) (w : World) (hC : Kd.C (Kd.int .u8) w A r.length r) :
    CallsIn Fence.wide n Tryz.prog 52 #[.slice A r.length c, .agg #[.int .i64 e0, .int .i64 (e1 : Int), .int .i64 (e2 : Int)]] w fun e w' => e = .returned (.int .i64 (beyL e1 e2 (linesB r) 0 0)) ∧ Below w.heap.size w w' := by
  have hn1 : 1 ≤ n := by omega
  have HC := Aside0.mk hC
  have HR := Aside0.mk hr
  clear hC hr
  have HL := Aside0.mk (fun W => bytesLines_calls A r.length c W)
  refine callsIn_of_wp_marks Tryz.func52 rfl trivial ?_ rfl
  simp only [Tryz.ntmps52, List.size_toArray, List.length_cons, List.length_nil, Nat.reduceAdd, Nat.reduceSub, Array.replicate_succ, Array.replicate_zero, List.push_toArray, List.append_toArray, List.nil_append, List.cons_append]
  gi_wp2
  refine ⟨trivial, ?_⟩
  refine (callsIn_wide.2 (HL.out _)).mono ?_
  rintro e W2 ⟨rfl, hW2⟩
  obtain ⟨hz, hI, hbx⟩ := beyond_start w e0 e1 e2 A r.length c W2 hW2
  have HS := Aside0.mk (blines_own (n - 1) (by omega) (w.heap.size + 5) A c r HR.out hrl hrc w HC.out W2 (Lies.below hI.b) hbx (by omega))
  have HI := Aside0.mk hI
  simp only [World.size_alloc, Nat.add_assoc, Nat.reduceAdd]
  clear hW2 hI hbx HL
  have HZ := Aside0.mk hz
  clear hz
  gi_wp2
  refine wpIn_range_own (F := Fence.wide) rfl rfl hn1 (gf := 81) (lb := #[.pointer (some ⟨w.heap.size + 5, 0, none⟩)]) rfl trivial (enters_of Tryz.func81 (by kernel_rfl) rfl) HS.out (Below.refl _ _) (by rintro q rfl; rw [HZ.out]; omega)
    (by rintro q (h | rfl) <;> rw [HZ.out] <;> omega) (fun _ => rfl) none (fun q e => by cases e)
    (fun pre g W => (g = none ∧ Sofar e1 e2 pre fun rest => beyL e1 e2 rest (sumL pre) pre.length) ∧ BeyI w e0 e1 e2 0 (sumL pre) pre.length (sumL pre) W)
    (fun c pre g W => g = none ∧ ∃ va vl vs v, ((c = .exit 0 ∧ v = 0 ∧ Sofar e1 e2 pre fun _ => -1) ∨ (c = .ret ∧ Sofar e1 e2 pre fun _ => v)) ∧ BeyI w e0 e1 e2 v va vl vs W)
    (Abd.and (Abd.pure _) (BeyI.abd _ _ _ _ _ _ _ (by rw [HZ.out]; omega) (fun q h => by subst h; omega)))
    (fun c s g A C row hs hg hr => by
      obtain ⟨rfl, va, vl, vs, v, hv, hI⟩ := hs
      exact ⟨rfl, va, vl, vs, v, hv, hI.grown hg (fun q e => (hr q e).elim (fun h => by have := HZ.out; omega) (fun h => by subst h; omega))⟩)
    ⟨⟨rfl, fun rest => rfl⟩, HI.out⟩
    (fun pre g W q h e => by rw [h.1.1] at e; cases e) (fun c pre g W q h e => by rw [h.1] at e; cases e)
    (fun x a' _ => a' = { tmps := #[.slice A r.length c, .agg #[.int .i64 e0, .int .i64 (e1 : Int), .int .i64 (e2 : Int)], undef, .pointer (some ⟨w.heap.size, 0, none⟩), .pointer (some ⟨w.heap.size + 1, 0, none⟩), .pointer (some ⟨w.heap.size + 2, 0, none⟩), .pointer (some ⟨w.heap.size + 3, 0, none⟩), .pointer (some ⟨w.heap.size + 4, 0, none⟩),
      .slice x.1 x.2.length x.2.length, .slice A r.length c, .func (.func 81) #[] #[.pointer (some ⟨w.heap.size + 5, 0, none⟩)], .slice x.1 x.2.length x.2.length, undef, undef, undef, undef, undef, undef, undef, undef, undef, undef, undef, undef, undef, undef, undef, undef, undef, undef, undef, undef, undef, undef, undef, undef, undef, undef, undef, undef, undef, undef, undef, undef], defers := [] })
    (fun x a' _ _ _ _ _ h _ _ => h) ?assign ?body ?done ?stop
  case assign =>
    intro l pre x g W K hI hK
    dsimp only [encB]
    gi_wp2
    exact hK _ _ (Spares.refl _ _ _) hI rfl
  case body =>
    rintro l pre ⟨A', ln⟩ g a' W hW2 ⟨⟨rfl, hsf⟩, hI⟩ rfl hsp
    rw [HZ.out] at hW2
    have hpre : pre.map Prod.snd <+: linesB r := by
      refine List.IsPrefix.trans ?_ hsp.1
      rw [List.map_append]
      exact ⟨_, rfl⟩
    have hsum := sumL_le hsp.1
    rw [sumL_snoc] at hsum
    dsimp only at hsum
    have hcnt := pre_count hpre
    have hln0 : ln ≠ [] := linesB_ne r ln (hsp.1.subset (by rw [List.map_append]; exact List.mem_append_right _ (by simp)))
    have hpos : 0 < ln.length := List.length_pos_iff.2 hln0
    obtain ⟨ad, hA', _, hcell⟩ := C_u8 (hsp.2 (A', ln) (List.mem_append_right _ List.mem_cons_self) W (C_lies HC.out (K := fun k => k < w.heap.size) (Lies.below hI.b) (fun k hk => hk))) hpos
    dsimp only at hA' hcell hpos
    subst hA'
    have hx0 := hcell 0 (ln.getD 0 0) (by rw [List.getD_eq_getElem?_getD, List.getElem?_eq_getElem hpos]; rfl)
    have hx1 : W.cell? ad = some (.int .u8 (ln.getD 0 0)) := by simpa [Addr.add] using hx0
    have HBL := Aside0.mk (fun ls : List (List Int) => beyL_step (e1 := e1) (e2 := e2) (ln := ln) (ls := ls) (z := sumL pre) (k := pre.length))
    have HSF := Aside0.mk hsf
    have HII := Aside0.mk hI
    clear hsf hsp hcell hpre
    have hpos' : (0 : Int) < (ln.length : Int) := by omega
    generalize hS : sumL pre = S at *
    generalize ln.getD 0 0 = x at *
    generalize hP : pre.length = P at *
    have kR := HII.out.r.cell
    have kA := HII.out.a.cell
    have kL := HII.out.l.cell
    have kS := HII.out.s.cell
    have kM1 : W.cell? ⟨w.heap.size, 1, none⟩ = some (.int .i64 (e1 : Int)) := (blk_cell HII.out.m 1).trans rfl
    have kM2 : W.cell? ⟨w.heap.size, 2, none⟩ = some (.int .i64 (e2 : Int)) := (blk_cell HII.out.m 2).trans rfl
    have fR := HII.out.r.frozen
    have fA := HII.out.a.frozen
    have fL := HII.out.l.frozen
    have fS := HII.out.s.frozen
    by_cases h13 : x = 13
    · have HV := Aside0.mk (fun ls : List (List Int) => (HBL.out ls).trans (if_pos h13))
      clear HBL
      subst h13
      gi_wp2
      exact ⟨none, Spares.refl _ _ _, rfl, _, _, _, 0, .inl ⟨rfl, rfl, HSF.out.snoc HV.out⟩, HII.out⟩
    · have HBL2 := Aside0.mk (fun ls : List (List Int) => (HBL.out ls).trans (if_neg h13))
      have hne : (x == 13) = false := by rw [beq_eq_false_iff_ne]; exact h13
      clear HBL
      have HL1 := Aside0.mk (HII.out.setL ((P : Int) + 1))
      by_cases hlim : e1 < P + 1
      · have hlim' : (e1 : Int) < (P : Int) + 1 := by omega
        have HV := Aside0.mk (fun ls : List (List Int) => (HBL2.out ls).trans (if_pos hlim))
        clear HBL2 hlim
        have HL2 := Aside0.mk (HL1.out.setR (S : Int))
        gi_wp2
        exact ⟨none, (spares_cell none 3 _ (by omega) (by omega) (Nat.le_of_eq HZ.out.symm)).trans (spares_cell none 1 _ (by omega) (by omega) (Nat.le_of_eq HZ.out.symm)), rfl, _, _, _, _, .inr ⟨rfl, HSF.out.snoc HV.out⟩, HL2.out⟩
      · have hlim' : ¬ (e1 : Int) < (P : Int) + 1 := by omega
        have hlim2 : decide ((e1 : Int) < (P : Int) + 1) = false := decide_eq_false hlim'
        have HBL3 := Aside0.mk (fun ls : List (List Int) => (HBL2.out ls).trans (if_neg hlim))
        clear HBL2 hlim
        by_cases hsz : e2 < S + ln.length
        · have hsz' : (e2 : Int) < (S : Int) + (ln.length : Int) := by omega
          have HV := Aside0.mk (fun ls : List (List Int) => (HBL3.out ls).trans (if_pos hsz))
          clear HBL3 hsz
          have HL2 := Aside0.mk (HL1.out.setR (e2 : Int))
          have hsub : IntKind.i64.wrap ((S : Int) + (e2 : Int)) = (S : Int) + (e2 : Int) := by
            unfold IntKind.wrap
            simp [IntKind.bits, IntKind.signed]
            omega
          have hsub2 : (S : Int) + (e2 : Int) - (S : Int) = (e2 : Int) := by omega
          gi_wp2
          exact ⟨none, (spares_cell none 3 _ (by omega) (by omega) (Nat.le_of_eq HZ.out.symm)).trans (spares_cell none 1 _ (by omega) (by omega) (Nat.le_of_eq HZ.out.symm)), rfl, _, _, _, _, .inr ⟨rfl, HSF.out.snoc HV.out⟩, HL2.out⟩
        · have hsz' : ¬ (e2 : Int) < (S : Int) + (ln.length : Int) := by omega
          have hsz2 : decide ((e2 : Int) < (S : Int) + (ln.length : Int)) = false := decide_eq_false hsz'
          have HV := Aside0.mk (fun ls : List (List Int) => (HBL3.out ls).trans (if_neg hsz))
          clear HBL3 hsz
          have HL2 := Aside0.mk ((HL1.out.setS ((S : Int) + (ln.length : Int))).setA ((S : Int) + (ln.length : Int)))
          have HE1 := Aside0.mk (show ((sumL (pre ++ [(some ad, ln)]) : Nat) : Int) = (S : Int) + (ln.length : Int) by rw [sumL_snoc, hS]; push_cast; rfl)
          have HE2 := Aside0.mk (show (((pre ++ [(some ad, ln)]).length : Nat) : Int) = (P : Int) + 1 by rw [List.length_append, hP]; push_cast; rfl)
          have HE3 := Aside0.mk (show sumL (pre ++ [(some ad, ln)]) = S + ln.length by rw [sumL_snoc, hS])
          have HE4 := Aside0.mk (show (pre ++ [(some ad, ln)]).length = P + 1 by rw [List.length_append, hP]; rfl)
          gi_wp2
          refine ⟨none, ((spares_cell none 3 _ (by omega) (by omega) (Nat.le_of_eq HZ.out.symm)).trans (spares_cell none 4 _ (by omega) (by omega) (Nat.le_of_eq HZ.out.symm))).trans (spares_cell none 2 _ (by omega) (by omega) (Nat.le_of_eq HZ.out.symm)), ⟨rfl, HSF.out.snoc (fun ls => ?_)⟩, ?_⟩
          · rw [HE3.out, HE4.out]
            exact HV.out ls
          · rw [HE1.out, HE2.out]
            exact HL2.out
  case done =>
    rintro D ys g W hD ⟨hys, hyf⟩ ⟨⟨rfl, hsf⟩, hI⟩ hK
    have HV := Aside0.mk (show beyL e1 e2 (linesB r) 0 0 = -1 by
      have := hsf []
      rw [List.append_nil, hys] at this
      rw [this]; rfl)
    have kR := hI.r.cell
    have fR := hI.r.frozen
    have hDz : w.heap.size + 5 ≤ D := by have := HZ.out; omega
    have HK1 := Aside0.mk (show (W.setCell ⟨w.heap.size + 1, 0, none⟩ (.int .i64 (-1))).heap[D]? = some (.deferred (some [])) from (Below.heap_setCell W _ _ D (by show ¬ D = w.heap.size + 1; omega)).trans hK)
    have HR1 := Aside0.mk ((hI.setR (-1)).grown (grownBy_putObj' _ D (.deferred none)) (fun q e => by cases e; exact hDz))
    clear hI hsf hys hyf hK
    gi_wp2
    refine ⟨by simp, .inl ⟨_, _, rfl, run_takeDeferred HK1.out, ?_⟩⟩
    refine ⟨_, results_cellB rfl _ _ _ ⟨w.heap.size + 1, 0, none⟩ (.int .i64 (-1)) rfl (run_isAgg_plain Tryz.underlying3 rfl _) HR1.out.r.cell, ?_⟩
    rw [HV.out]
    exact ⟨rfl, HR1.out.b⟩
  case stop =>
    rintro D c pre g W hD hsp ⟨rfl, va, vl, vs, v, hv, hI⟩ hK
    have hDz : w.heap.size + 5 ≤ D := by have := HZ.out; omega
    obtain ⟨rest, hrest⟩ := hsp.1
    rcases hv with ⟨rfl, rfl, hsf⟩ | ⟨rfl, hsf⟩
    · have HV := Aside0.mk (show beyL e1 e2 (linesB r) 0 0 = -1 by rw [← hrest]; exact hsf rest)
      have kR := hI.r.cell
      have fR := hI.r.frozen
      have HK1 := Aside0.mk (show (W.setCell ⟨w.heap.size + 1, 0, none⟩ (.int .i64 (-1))).heap[D]? = some (.deferred (some [])) from (Below.heap_setCell W _ _ D (by show ¬ D = w.heap.size + 1; omega)).trans hK)
      have HR1 := Aside0.mk ((hI.setR (-1)).grown (grownBy_putObj' _ D (.deferred none)) (fun q e => by cases e; exact hDz))
      clear hI hsf hK hsp hrest
      gi_wp2
      refine ⟨by simp, .inl ⟨_, _, rfl, run_takeDeferred HK1.out, ?_⟩⟩
      refine ⟨_, results_cellB rfl _ _ _ ⟨w.heap.size + 1, 0, none⟩ (.int .i64 (-1)) rfl (run_isAgg_plain Tryz.underlying3 rfl _) HR1.out.r.cell, ?_⟩
      rw [HV.out]
      exact ⟨rfl, HR1.out.b⟩
    · have HV := Aside0.mk (show beyL e1 e2 (linesB r) 0 0 = v by rw [← hrest]; exact hsf rest)
      have HK1 := Aside0.mk hK
      have HR1 := Aside0.mk (hI.grown (grownBy_putObj' _ D (.deferred none)) (fun q e => by cases e; exact hDz))
      clear hI hsf hK hsp hrest
      gi_wp2
      refine ⟨by simp, .inl ⟨_, _, rfl, run_takeDeferred HK1.out, ?_⟩⟩
      refine ⟨_, results_cellB rfl _ _ _ ⟨w.heap.size + 1, 0, none⟩ (.int .i64 v) rfl (run_isAgg_plain Tryz.underlying3 rfl _) HR1.out.r.cell, ?_⟩
      rw [HV.out]
      exact ⟨rfl, HR1.out.b⟩
theorem beyond_calls (A : Option Addr) (c : Nat) (r : List Int) (hr : ∀ x ∈ r, 0 ≤ x ∧ x ≤ 255) (hrl : r.length ≤ 1073741824) (hrc : r.length ≤ c) (e0 : Int) (e1 e2 : Nat) (h1 : e1 ≤ 65536) (h2 : e2 ≤ 65536) (w : World) (hC : Kd.C (Kd.int .u8) w A r.length r) :
    Calls Tryz.prog 52 #[.slice A r.length c, .agg #[.int .i64 e0, .int .i64 (e1 : Int), .int .i64 (e2 : Int)]] w fun e w' => e = .returned (.int .i64 (beyL e1 e2 (linesB r) 0 0)) ∧ Below w.heap.size w w' :=
  callsIn_wide.1 (beyond_in 4 (Nat.le_refl _) A c r hr hrl hrc e0 e1 e2 h1 h2 w hC)
end Go.Proofs.YtmmbpbgcobmifaaGreatDoorH
end
section
namespace Go.Proofs.YtmmbpbgcobmifaaGreatDoorH
open Go.RowKit Go.Proofs.YtmmbpbgcobmifaaGreatDoorW.PrintWords Go.Proofs.YtmmbpbgcobmifaaGreatDoorW.PrintLast Go.Proofs.YtmmbpbgcobmifaaGreatDoorW.PrintMore
def strings_Cut.f (a0 a1 : ByteArray) : Option (ByteArray × ByteArray × Bool) := if a0.size < 4294967281 then some (⟨(Lib.cut a0.data.toList a1.data.toList).1.toArray⟩, ⟨(Lib.cut a0.data.toList a1.data.toList).2.1.toArray⟩, (Lib.cut a0.data.toList a1.data.toList).2.2) else none
theorem strings_Cut.calls (a0 a1 : ByteArray) (r1 r2 : ByteArray) (r3 : Bool) (w : World) (hG : TabOk w) (h : strings_Cut.f a0 a1 = some (r1, r2, r3)) :
    Calls Tryz.prog 78 #[.string a0, .string a1] w fun e w' => e = .returned (.tuple #[.string r1, .string r2, .bool r3]) ∧ Below w.heap.size w w' := by
  unfold strings_Cut.f at h
  split at h
  · rename_i hs
    injection h with h
    injection h with h1 h
    injection h with h2 h3
    subst h1 h2 h3
    obtain ⟨m, hm⟩ := hG.mx
    refine (Tryz.strings_Cut a0 a1 m w hs hm).mono ?_
    rintro e w' ⟨rfl, n, rfl⟩
    exact ⟨rfl, (show Drawn0 w (w.drewN n) from ⟨⟨n, rfl⟩⟩).below⟩
  · cases h
end Go.Proofs.YtmmbpbgcobmifaaGreatDoorH
end
section
namespace Go.Proofs.YtmmbpbgcobmifaaGreatDoorH
open Go.RowKit Go.Shelf Go.Proofs.YtmmbpbgcobmifaaGreatDoorW.PrintWords Go.Proofs.YtmmbpbgcobmifaaGreatDoorW.PrintLast Go.Proofs.YtmmbpbgcobmifaaGreatDoorW.PrintMore
attribute [local go_sem] Oper.semAt_some
def linesOf : Nat → ByteArray → Nat → List (Nat × ByteArray)
  | 0, _, _ => []
  | k + 1, s, i =>
    let c := Lib.cut (s.data.toList.drop i) [13, 10]
    if c.2.2 then (i, ⟨c.1.toArray⟩) :: (if c.1.isEmpty then [] else linesOf k s (i + c.1.length + 2)) else []
theorem linesOf_succ (k : Nat) (s : ByteArray) (i : Nat) : linesOf (k + 1) s i = if (Lib.cut (s.data.toList.drop i) [13, 10]).2.2 = true then (i, ⟨(Lib.cut (s.data.toList.drop i) [13, 10]).1.toArray⟩) :: (if (Lib.cut (s.data.toList.drop i) [13, 10]).1.isEmpty = true then [] else linesOf k s (i + (Lib.cut (s.data.toList.drop i) [13, 10]).1.length + 2)) else [] := rfl
theorem cut_size (t : List UInt8) (h : (Lib.cut t [13, 10]).2.2 = true) : (Lib.cut t [13, 10]).1.length + 2 ≤ t.length := by
  unfold Lib.cut at h ⊢
  split at h
  · rename_i h0
    have h1 := Lib.index_room t [13, 10] h0
    rw [if_pos h0]
    simp only [List.length_take]
    simp at h1
    omega
  · cases h
theorem linesOf_length : ∀ (k : Nat) (s : ByteArray) (i : Nat), (linesOf k s i).length ≤ k
  | 0, _, _ => Nat.le_refl _
  | k + 1, s, i => by
    rw [linesOf_succ]
    split
    · split
      · simp
      · have := linesOf_length k s (i + (Lib.cut (s.data.toList.drop i) [13, 10]).1.length + 2)
        simp only [List.length_cons]; omega
    · simp
theorem linesOf_size : ∀ (k : Nat) (s : ByteArray) (i : Nat), ∀ y ∈ linesOf k s i, y.2.size ≤ s.size
  | 0, _, _, y, h => absurd h List.not_mem_nil
  | k + 1, s, i, y, h => by
    rw [linesOf_succ] at h
    split at h
    · rename_i hc
      rcases List.mem_cons.1 h with rfl | h
      · have h1 := cut_size _ hc
        rw [List.length_drop, ← size_eq_length] at h1
        show (Lib.cut (s.data.toList.drop i) [13, 10]).1.length ≤ _
        omega
      · split at h
        · exact absurd h List.not_mem_nil
        · exact linesOf_size k s _ y h
    · exact absurd h List.not_mem_nil
theorem lines_calls (s : ByteArray) (w : World) :
    Calls Tryz.prog 63 #[.string s] w fun e w' => e = .returned (.func (.func 77) #[] #[.pointer (some ⟨w.heap.size, 0, none⟩)]) ∧ w' = w.alloc (.cells #[.string s] 9) := by
  go_enter Tryz.func63, Tryz.ntmps63
  go_wp2
  go_ret
  exact ⟨rfl, rfl⟩
def encL (x : Nat × ByteArray) : Array Value := #[.int .i64 (x.1 : Int), .string x.2]
set_option maxRecDepth 100000 in
set_option maxHeartbeats 2000000 in
theorem lines_own (n : Nat) (hn : 1 ≤ n) (Bs : Nat) (s : ByteArray) (hs : s.size < 4294967281) (w : World) (hG : TabOk w) (W0 : World) (hw0 : Lies (fun k => k < w.heap.size) w W0) (hc0 : Boxed W0 Bs 9 (.string s)) :
    SeqO Fence.wide n Tryz.prog 77 #[.pointer (some ⟨Bs, 0, none⟩)] encL (fun k => k < w.heap.size ∨ k = Bs) (fun _ => False) (fun ys => ys = linesOf (s.size + 1) s 0) (fun pre => pre <+: linesOf (s.size + 1) s 0) W0 := by
  intro l J Jx g0 W hW hJ hJx hg0 hY h0
  have hw1 : Lies (fun k => k < w.heap.size) w W := hw0.trans (Lies.below hW)
  have hc : Boxed W Bs 9 (.string s) := (hW.block _ hc0.lt).trans hc0
  have hBs := hc.lt
  have hwsz := hw1.size
  clear hW hc0 hw0
  refine callsIn_of_wp Tryz.func77 rfl trivial ?_ rfl
  simp only [Tryz.ntmps77, List.size_toArray, List.length_cons, List.length_nil, Nat.reduceAdd, Nat.reduceSub, Array.replicate_succ, Array.replicate_zero, List.push_toArray, List.append_toArray, List.nil_append, List.cons_append]
  gi_wp2
  gi_loopw [3] (fun v3 wr => ∃ (i k : Nat) (pre : List (Nat × ByteArray)) (g : Option Nat), v3 = .int .i64 i ∧ i ≤ s.size ∧ s.size - i < k ∧ pre.length ≤ i ∧ Aside0 (linesOf (s.size + 1) s 0 = pre ++ linesOf k s i) ∧ Aside0 (J pre g wr) ∧ Aside0 (∀ q, g = some q → ¬ (q < w.heap.size ∨ q = Bs)) ∧ Aside0 (Lies (fun k => k < w.heap.size ∨ k = Bs) W wr))
    (fun v3 _ => s.size - (intOf v3).toNat)
  case atStart => exact ⟨0, s.size + 1, [], g0, rfl, Nat.zero_le _, by omega, Nat.le_refl _, ⟨rfl⟩, ⟨h0⟩, ⟨fun q e => (hg0 q e).1⟩, ⟨Lies.refl _ _⟩⟩
  case round =>
    obtain ⟨i, k, pre, g, rfl, hi, hk, hp, hE, hJs, hgq, hnx⟩ := hrel
    have hcx := (hnx.out.box (.inr rfl) hc).cell
    obtain ⟨m, hm⟩ := (hG.lies hw1 (fun k hk => .inl hk) hnx.out).mx
    have HC := Aside0.mk (Tryz.strings_Cut (s.extract i s.size) (⟨#[13, 10]⟩ : ByteArray) m wr (by
      have := extract_from s i
      have h2 := congrArg List.length this
      rw [← size_eq_length, List.length_drop, ← size_eq_length] at h2
      omega) hm)
    obtain ⟨k, rfl⟩ : ∃ q, k = q + 1 := ⟨k - 1, by omega⟩
    rw [extract_from, show (⟨#[13, 10]⟩ : ByteArray).data.toList = [13, 10] from rfl] at HC
    have hcs := cut_size (s.data.toList.drop i)
    have HE := Aside0.mk hE.out
    rw [linesOf_succ k s i] at HE
    rw [List.length_drop, ← size_eq_length] at hcs
    clear hE hm
    obtain ⟨c, hcut⟩ : ∃ c, Lib.cut (s.data.toList.drop i) [13, 10] = c := ⟨_, rfl⟩
    rw [hcut] at HC hcs HE
    clear hcut
    obtain ⟨a, b, ok⟩ := c
    dsimp only at HC HE hcs
    have hdr : ∀ q : Nat, wr.grownBy (wr.drewN q) none := fun q => ⟨rfl, rfl, rfl, Nat.le_refl _, fun _ _ _ => rfl⟩
    have HDR := Aside0.mk hdr
    clear hdr
    cases ok with
    | false =>
      rw [if_neg (by simp), List.append_nil] at HE
      gi_wp2
      refine ⟨trivial, ?_⟩
      refine (callsIn_wide.2 HC.out).mono ?_
      rintro e w1 ⟨rfl, q, rfl⟩
      have hJ1 := Aside0.mk (hJ.step hJs.out (HDR.out q))
      gi_wp2
      refine ⟨fun _ h => (by cases h), ?_⟩
      gi_wp2
      refine bodyPost_ret (results_none rfl _ _ _) rfl ?_
      exact ⟨⟨_, rfl⟩, .inl ⟨_, g, rfl, by rw [HE.out]; exact hJ1.out⟩⟩
    | true =>
      rw [if_pos rfl] at HE
      gi_wp2
      refine ⟨trivial, ?_⟩
      refine (callsIn_wide.2 HC.out).mono ?_
      rintro e w1 ⟨rfl, q, rfl⟩
      have hJ1 : J pre g (wr.drewN q) := hJ.step hJs.out (HDR.out q)
      have HL := Aside0.mk (hnx.out.trans (Lies.grown (HDR.out q) (fun _ e => by cases e)))
      have HP := Aside0.mk (show (pre ++ [((i, ⟨a.toArray⟩) : Nat × ByteArray)]) <+: linesOf (s.size + 1) s 0 by rw [HE.out]; exact ⟨_, by rw [List.append_assoc]; rfl⟩)
      obtain ⟨fn, tmps, assign, body, hy, hR⟩ := hY (n - 1) pre (i, ⟨a.toArray⟩) g (wr.drewN q) hJ1 HP.out
      dsimp only [encL] at hy
      have HR := Aside0.mk hR
      have HLS := Aside0.mk (fun (g' : Option Nat) (W3 : World) (h : Spares (fun k => W.heap.size ≤ k ∨ (k < w.heap.size ∨ k = Bs)) g g' (wr.drewN q) W3) =>
        show Lies (fun k => k < w.heap.size ∨ k = Bs) W W3 from HL.out.trans (h.lies (fun k hk _ => ⟨.inr hk, fun e => hgq.out k e.symm hk⟩)))
      have HGS := Aside0.mk (fun (g' : Option Nat) (W3 : World) (h : Spares (fun k => W.heap.size ≤ k ∨ (k < w.heap.size ∨ k = Bs)) g g' (wr.drewN q) W3) =>
        show ∀ q, g' = some q → ¬ (q < w.heap.size ∨ q = Bs) from h.not (fun k hk => by have := HL.out.size; rcases hk with hk | hk <;> omega) hgq.out)
      have e0 : (⟨a.toArray⟩ : ByteArray).size = a.length := rfl
      have hcs := hcs trivial
      clear hJ1 hR HL hgq
      cases a with
      | nil =>
        have HE2 := Aside0.mk (show linesOf (s.size + 1) s 0 = pre ++ [((i, ⟨([] : List UInt8).toArray⟩) : Nat × ByteArray)] by rw [HE.out]; rfl)
        gi_wp2
        refine HR.out.mono ?_
        rintro e W3 ⟨g', hsp, (⟨rfl, hJ3⟩ | ⟨rfl, hJx3⟩)⟩
        · gi_wp2
          refine bodyPost_ret (results_none rfl _ _ _) rfl ?_
          exact ⟨⟨_, rfl⟩, .inl ⟨_, g', rfl, by rw [HE2.out]; exact hJ3⟩⟩
        · gi_wp2
          refine bodyPost_ret (results_none rfl _ _ _) rfl ?_
          exact ⟨⟨_, rfl⟩, .inr ⟨_, g', HP.out, hJx3⟩⟩
      | cons c a =>
        have HE2 := Aside0.mk (show linesOf (s.size + 1) s 0 = (pre ++ [((i, ⟨(c :: a).toArray⟩) : Nat × ByteArray)]) ++ linesOf k s (i + (a.length + 3)) by rw [HE.out, List.append_assoc]; rfl)
        have hcs2 : a.length + 3 ≤ s.size - i := by simp only [List.length_cons] at hcs; omega
        have hne : ((⟨(c :: a).toArray⟩ : ByteArray).toList == ([] : List UInt8)) = false := by rw [ByteArray.toList_eq]; rfl
        have hne2 : ((⟨(c :: a).toArray⟩ : ByteArray).toList = ([] : List UInt8)) = False := by rw [ByteArray.toList_eq]; simp
        gi_wp2
        refine HR.out.mono ?_
        rintro e W3 ⟨g', hsp, (⟨rfl, hJ3⟩ | ⟨rfl, hJx3⟩)⟩
        · have HJ3 := Aside0.mk hJ3
          have HS3 := Aside0.mk hsp
          clear hJ3 hsp
          have hcx3 := ((HLS.out g' W3 HS3.out).box (.inr rfl) hc).cell
          gi_wp2
          go_roundw
          case rel => exact ⟨i + (a.length + 3), k, _, g', congrArg (Value.int IntKind.i64) (by omega), by omega, by omega, by rw [List.length_append]; simp only [List.length_cons, List.length_nil]; omega, HE2, HJ3, ⟨HGS.out g' W3 HS3.out⟩, ⟨HLS.out g' W3 HS3.out⟩⟩
          case measure => simp [intOf]; omega
        · gi_wp2
          refine bodyPost_ret (results_none rfl _ _ _) rfl ?_
          exact ⟨⟨_, rfl⟩, .inr ⟨_, g', HP.out, hJx3⟩⟩
end Go.Proofs.YtmmbpbgcobmifaaGreatDoorH
end
section
namespace Go.Proofs.YtmmbpbgcobmifaaGreatDoorH
open Go.RowKit Go.Proofs.YtmmbpbgcobmifaaGreatDoorW.PrintWords Go.Proofs.YtmmbpbgcobmifaaGreatDoorW.PrintLast Go.Proofs.YtmmbpbgcobmifaaGreatDoorW.PrintMore
theorem take_one {α : Type} (l : List α) (d : α) (k : Nat) (h : k < l.length) : l.take (k + 1) = l.take k ++ [l.getD k d] := by
  rw [List.take_succ_eq_append_getElem h]
  simp [List.getD_eq_getElem?_getD, h]
theorem mem_getD {α : Type} (l : List α) (d : α) (k : Nat) (h : k < l.length) : l.getD k d ∈ l := by
  rw [List.getD_eq_getElem?_getD, List.getElem?_eq_getElem h]
  exact List.getElem_mem h
end Go.Proofs.YtmmbpbgcobmifaaGreatDoorH
end
section
namespace Go.Proofs.YtmmbpbgcobmifaaGreatDoorH
open Go.RowKit Go.Proofs.YtmmbpbgcobmifaaGreatDoorW.PrintWords Go.Proofs.YtmmbpbgcobmifaaGreatDoorW.PrintLast Go.Proofs.YtmmbpbgcobmifaaGreatDoorW.PrintMore
def alikeB (a b : ByteArray) : Bool := decide (smallS a = smallS b)
end Go.Proofs.YtmmbpbgcobmifaaGreatDoorH
end
section
namespace Go.Proofs.YtmmbpbgcobmifaaGreatDoor.Pr
end Go.Proofs.YtmmbpbgcobmifaaGreatDoor.Pr
namespace Go.Proofs.YtmmbpbgcobmifaaGreatDoorH
open Go.RowKit Go.Proofs.YtmmbpbgcobmifaaGreatDoorW.PrintWords Go.Proofs.YtmmbpbgcobmifaaGreatDoorW.PrintLast Go.Proofs.YtmmbpbgcobmifaaGreatDoorW.PrintMore Go.Proofs.YtmmbpbgcobmifaaGreatDoor.Pr
def isB (x : S28) (n : ByteArray) : Bool := alikeB x.f0 n
def fitF (l : List S28) : Bool := l.all fun x => decide (x.f0.size ≤ 140737488355328)
def getL (l : List S28) (n : ByteArray) : List ByteArray := (l.filter fun x => isB x n).map fun x => x.f1
def field_Get.f (l0 : List S28) (a1 : ByteArray) : Option (List ByteArray) := if (decide (l0.length < 8796093022208) && fitF l0 && decide (a1.size ≤ 140737488355328)) = true then some (getL l0 a1) else none
def fitS (l : List ByteArray) : Bool := l.all fun x => decide (x.size ≤ 140737488355328)
def namedB (names : List ByteArray) (x : S28) : Bool := names.any fun n => isB x n
def withoutL (l : List S28) (names : List ByteArray) : List S28 := l.filter fun x => !(namedB names x)
def field_Without.f (l0 : List S28) (l1 : List ByteArray) : Option (List S28) := if (decide (l0.length < 4398046511104) && fitF l0 && decide (l1.length < 8796093022208) && fitS l1) = true then some (withoutL l0 l1) else none
end Go.Proofs.YtmmbpbgcobmifaaGreatDoorH
end
section
namespace Go.Proofs.YtmmbpbgcobmifaaGreatDoorH
open Go.RowKit Go.Proofs.YtmmbpbgcobmifaaGreatDoorW.PrintWords Go.Proofs.YtmmbpbgcobmifaaGreatDoorW.PrintLast Go.Proofs.YtmmbpbgcobmifaaGreatDoorW.PrintMore
theorem drop_cons {α : Type} (l : List α) (d : α) (i : Nat) (h : i < l.length) : l.drop i = l.getD i d :: l.drop (i + 1) := by
  rw [List.drop_eq_getElem_cons h]
  simp [List.getD_eq_getElem?_getD, h]
theorem wrapN (a b : Nat) (h : a + b < 4611686018427387904) : wrap64 ((a : Int) + (b : Int)) = ((a + b : Nat) : Int) := by unfold wrap64; omega
theorem wrapS (a : Nat) (h : a < 4611686018427387904) : wrap64 ((a : Int) + 1) = ((a + 1 : Nat) : Int) := by unfold wrap64; omega
end Go.Proofs.YtmmbpbgcobmifaaGreatDoorH
end
section
namespace Go.Proofs.YtmmbpbgcobmifaaGreatDoor.Pr
end Go.Proofs.YtmmbpbgcobmifaaGreatDoor.Pr
namespace Go.Proofs.YtmmbpbgcobmifaaGreatDoorH
open Go.RowKit Go.Proofs.YtmmbpbgcobmifaaGreatDoorW.PrintWords Go.Proofs.YtmmbpbgcobmifaaGreatDoorW.PrintLast Go.Proofs.YtmmbpbgcobmifaaGreatDoorW.PrintMore Go.Proofs.YtmmbpbgcobmifaaGreatDoor.Pr
abbrev Fld := S28
def Small1 (l : List Fld) : Prop := ∀ y ∈ l, y.f0.size ≤ 140737488351232 ∧ y.f1.size ≤ 140737488351232
def sumF (l : List Fld) : Nat := (l.map fun x => x.f0.size + x.f1.size + 1).sum
theorem sumF_cons (x : Fld) (l : List Fld) : sumF (x :: l) = (x.f0.size + x.f1.size + 1) + sumF l := by simp [sumF]
theorem sumF_length : ∀ l : List Fld, l.length ≤ sumF l
  | [] => Nat.le_refl _
  | x :: l => by
    have := sumF_length l
    rw [sumF_cons, List.length_cons]
    omega
theorem sumF_at : ∀ (l : List Fld) (x : Fld), x ∈ l → x.f0.size + x.f1.size + 1 ≤ sumF l
  | y :: l, x, h => by
    rw [sumF_cons]
    rcases List.mem_cons.1 h with rfl | h
    · omega
    · have := sumF_at l x h
      omega
theorem rd_nat (l : List Fld) (i : Nat) : rd_T28 l (i : Int) = l.getD i z28 := by
  unfold rd_T28
  rw [Int.toNat_natCast]
end Go.Proofs.YtmmbpbgcobmifaaGreatDoorH
end
section
namespace Go.Proofs.YtmmbpbgcobmifaaGreatDoor.Pr
open Go.RowKit Go.Proofs.YtmmbpbgcobmifaaGreatDoorH Go.Proofs.YtmmbpbgcobmifaaGreatDoorW.PrintWords Go.Proofs.YtmmbpbgcobmifaaGreatDoorW.PrintLast Go.Proofs.YtmmbpbgcobmifaaGreatDoorW.PrintMore
attribute [local go_sem] max2_int min2_int max_two min_two max_three min_three max_four min_four   -- for this text's walks alone
set_option linter.unusedVariables false
set_option linter.unusedSimpArgs false
def catchpitref02_blank.f (a0 : Int) : Option (Bool) := if a0 = 32 then (some true) else (some (a0 == 9))
set_option maxHeartbeats 8000000 in
set_option maxRecDepth 100000 in
theorem catchpitref02_blank.calls (a0 : Int) (r : Bool) (w : World) (hG : TabOk w) (h : catchpitref02_blank.f a0 = some r) :
    Calls Tryz.prog 34 #[.int .u8 a0] w fun e w' => e = .returned (.bool r) ∧ Drawn0 w w' := by
  have H : (if a0 = 32 then (some true) else (some (a0 == 9))) = some r := h
  clear h
  by_cases c2 : a0 = 32
  · rw [if_pos c2] at H
    have c2b0 : (a0 == 32) = true := beq_iff_eq.mpr c2
    have c2b1 : (a0 != 32) = false := bne_eq_false_iff_eq.mpr c2
    clear c2
    obtain rfl := Option.some.inj H
    go_enter Tryz.func34, Tryz.ntmps34
    go_wp2
    go_ret
    exact ⟨by first | rfl | (simp; done) | (simp [*]; done), by repeat (first | exact Drawn0.refl _ | apply Drawn0.step)⟩
  · rw [if_neg c2] at H
    have c2b0 : (a0 == 32) = false := beq_eq_false_iff_ne.mpr c2
    have c2b1 : (a0 != 32) = true := bne_iff_ne.mpr c2
    obtain rfl := Option.some.inj H
    go_enter Tryz.func34, Tryz.ntmps34
    go_wp2
    go_ret
    exact ⟨by first | rfl | (simp; done) | (simp [*]; done), by repeat (first | exact Drawn0.refl _ | apply Drawn0.step)⟩
end Go.Proofs.YtmmbpbgcobmifaaGreatDoor.Pr
end
section
namespace Go.Proofs.YtmmbpbgcobmifaaGreatDoor.Pr
open Go.RowKit Go.Proofs.YtmmbpbgcobmifaaGreatDoorH Go.Proofs.YtmmbpbgcobmifaaGreatDoorW.PrintWords Go.Proofs.YtmmbpbgcobmifaaGreatDoorW.PrintLast Go.Proofs.YtmmbpbgcobmifaaGreatDoorW.PrintMore
attribute [local go_sem] max2_int min2_int max_two min_two max_three min_three max_four min_four   -- for this text's walks alone
set_option linter.unusedVariables false
set_option linter.unusedSimpArgs false
mutual
def catchpitref02_Trim.j1 : Nat → ByteArray → Option (ByteArray)
  | 0, _ => none
  | k + 1, x0 => catchpitref02_Trim.l1 k x0
def catchpitref02_Trim.l1 : Nat → ByteArray → Option (ByteArray)
  | 0, _ => none
  | k + 1, x0 => if (x0.size : Int) > 0 then (if 0 ≤ (wrap64 ((x0.size : Int) - 1)) then (if (wrap64 ((x0.size : Int) - 1)) < (x0.size : Int) then ((catchpitref02_blank.f (bt x0 (wrap64 ((x0.size : Int) - 1)))).bind fun t159 => (if t159 = true then (if (wrap64 ((x0.size : Int) - 1)) ≤ (x0.size : Int) then (catchpitref02_Trim.l1 k (x0.extract 0 ((wrap64 ((x0.size : Int) - 1)) : Int).toNat)) else (none)) else (some x0))) else (none)) else (none)) else (some x0)
def catchpitref02_Trim.l0 : Nat → ByteArray → Option (ByteArray)
  | 0, _ => none
  | k + 1, x0 => if (x0.size : Int) > 0 then (if 0 < (x0.size : Int) then ((catchpitref02_blank.f (bt x0 0)).bind fun t158 => (if t158 = true then (if 1 ≤ (x0.size : Int) then (catchpitref02_Trim.l0 k (x0.extract 1 x0.size)) else (none)) else (catchpitref02_Trim.j1 k x0))) else (none)) else (catchpitref02_Trim.j1 k x0)
end
def catchpitref02_Trim.f (k : Nat) (a0 : ByteArray) : Option (ByteArray) := catchpitref02_Trim.l0 k a0
theorem catchpitref02_Trim.mono_l : ∀ k, (∀ y0, LeO (catchpitref02_Trim.j1 k y0) (catchpitref02_Trim.j1 (k + 1) y0)) ∧ (∀ y0, LeO (catchpitref02_Trim.l1 k y0) (catchpitref02_Trim.l1 (k + 1) y0)) ∧ (∀ y0, LeO (catchpitref02_Trim.l0 k y0) (catchpitref02_Trim.l0 (k + 1) y0))
  | 0 => ⟨fun _ r h => by simp [catchpitref02_Trim.j1] at h, fun _ r h => by simp [catchpitref02_Trim.l1] at h, fun _ r h => by simp [catchpitref02_Trim.l0] at h⟩
  | k + 1 => by
    obtain ⟨ih0, ih1, ih2⟩ := catchpitref02_Trim.mono_l k
    refine ⟨?_, ?_, ?_⟩
    · intro y0
      unfold catchpitref02_Trim.j1
      repeat' first
      | (with_reducible exact ih0 _)
      | (with_reducible exact ih1 _)
      | (with_reducible exact ih2 _)
      | (with_reducible exact LeO.refl _)
      | (with_reducible exact LeO.none _)
      | (with_reducible refine LeO.ite ?_ ?_)
      | (with_reducible refine LeO.bind ?_ (fun _ => ?_))
      | exact ih0 _
      | exact ih1 _
      | exact ih2 _
      | exact LeO.none _
      | refine LeO.ite ?_ ?_
      | refine LeO.bind ?_ (fun _ => ?_)
    · intro y0
      unfold catchpitref02_Trim.l1
      repeat' first
      | (with_reducible exact ih0 _)
      | (with_reducible exact ih1 _)
      | (with_reducible exact ih2 _)
      | (with_reducible exact LeO.refl _)
      | (with_reducible exact LeO.none _)
      | (with_reducible refine LeO.ite ?_ ?_)
      | (with_reducible refine LeO.bind ?_ (fun _ => ?_))
      | exact ih0 _
      | exact ih1 _
      | exact ih2 _
      | exact LeO.none _
      | refine LeO.ite ?_ ?_
      | refine LeO.bind ?_ (fun _ => ?_)
    · intro y0
      unfold catchpitref02_Trim.l0
      repeat' first
      | (with_reducible exact ih0 _)
      | (with_reducible exact ih1 _)
      | (with_reducible exact ih2 _)
      | (with_reducible exact LeO.refl _)
      | (with_reducible exact LeO.none _)
      | (with_reducible refine LeO.ite ?_ ?_)
      | (with_reducible refine LeO.bind ?_ (fun _ => ?_))
      | exact ih0 _
      | exact ih1 _
      | exact ih2 _
      | exact LeO.none _
      | refine LeO.ite ?_ ?_
      | refine LeO.bind ?_ (fun _ => ?_)
theorem catchpitref02_Trim.mono : ∀ a0 k, LeO (catchpitref02_Trim.f k a0) (catchpitref02_Trim.f (k + 1) a0) := by
  intro a0 k
  obtain ⟨ih0, ih1, ih2⟩ := catchpitref02_Trim.mono_l k
  unfold catchpitref02_Trim.f
  repeat' first
      | (with_reducible exact ih0 _)
      | (with_reducible exact ih1 _)
      | (with_reducible exact ih2 _)
      | (with_reducible exact LeO.refl _)
      | (with_reducible exact LeO.none _)
      | (with_reducible refine LeO.ite ?_ ?_)
      | (with_reducible refine LeO.bind ?_ (fun _ => ?_))
      | exact ih0 _
      | exact ih1 _
      | exact ih2 _
      | exact LeO.none _
      | refine LeO.ite ?_ ?_
      | refine LeO.bind ?_ (fun _ => ?_)
end Go.Proofs.YtmmbpbgcobmifaaGreatDoor.Pr
end
section
namespace Go.Proofs.YtmmbpbgcobmifaaGreatDoor.Pr
end Go.Proofs.YtmmbpbgcobmifaaGreatDoor.Pr
namespace Go.Proofs.YtmmbpbgcobmifaaGreatDoorH
open Go.RowKit Go.Proofs.YtmmbpbgcobmifaaGreatDoorW.PrintWords Go.Proofs.YtmmbpbgcobmifaaGreatDoorW.PrintLast Go.Proofs.YtmmbpbgcobmifaaGreatDoorW.PrintMore Go.Proofs.YtmmbpbgcobmifaaGreatDoor.Pr
theorem ref02_blank (c : Int) : catchpitref02_blank.f c = some (blankI c) := by
  unfold catchpitref02_blank.f blankI
  by_cases h : c = 32
  · rw [if_pos h]; subst h; rfl
  · rw [if_neg h, beq_eq_false_iff_ne.2 h, Bool.false_or]
end Go.Proofs.YtmmbpbgcobmifaaGreatDoorH
end
section
namespace Go.Proofs.YtmmbpbgcobmifaaGreatDoor.Pr
open Go.RowKit Go.Proofs.YtmmbpbgcobmifaaGreatDoorH Go.Proofs.YtmmbpbgcobmifaaGreatDoorW.PrintWords Go.Proofs.YtmmbpbgcobmifaaGreatDoorW.PrintLast Go.Proofs.YtmmbpbgcobmifaaGreatDoorW.PrintMore
attribute [local go_sem] max2_int min2_int max_two min_two max_three min_three max_four min_four   -- for this text's walks alone
set_option linter.unusedVariables false
set_option linter.unusedSimpArgs false
def catchpitref02_token.j0 : Nat → Int → Bool → Option (Bool)
  | 0, _, _ => none
  | k + 1, x0, x24 => if x24 = true then (some true) else (if x0 = 33 then (some true) else (if x0 = 35 then (some true) else (if x0 = 36 then (some true) else (if x0 = 37 then (some true) else (if x0 = 38 then (some true) else (if x0 = 39 then (some true) else (if x0 = 42 then (some true) else (if x0 = 43 then (some true) else (if x0 = 45 then (some true) else (if x0 = 46 then (some true) else (if x0 = 94 then (some true) else (if x0 = 95 then (some true) else (if x0 = 96 then (some true) else (if x0 = 124 then (some true) else (if x0 = 126 then (some true) else (some false))))))))))))))))
def catchpitref02_token.f (k : Nat) (a0 : Int) : Option (Bool) := if a0 ≥ 97 then (if a0 ≤ 122 then (catchpitref02_token.j0 k a0 true) else (if a0 ≥ 65 then (if a0 ≤ 90 then (catchpitref02_token.j0 k a0 true) else (if a0 ≥ 48 then (catchpitref02_token.j0 k a0 (decide (a0 ≤ 57))) else (catchpitref02_token.j0 k a0 false))) else (if a0 ≥ 48 then (catchpitref02_token.j0 k a0 (decide (a0 ≤ 57))) else (catchpitref02_token.j0 k a0 false)))) else (if a0 ≥ 65 then (if a0 ≤ 90 then (catchpitref02_token.j0 k a0 true) else (if a0 ≥ 48 then (catchpitref02_token.j0 k a0 (decide (a0 ≤ 57))) else (catchpitref02_token.j0 k a0 false))) else (if a0 ≥ 48 then (catchpitref02_token.j0 k a0 (decide (a0 ≤ 57))) else (catchpitref02_token.j0 k a0 false)))
theorem catchpitref02_token.mono_l : ∀ k, (∀ y0 y1, LeO (catchpitref02_token.j0 k y0 y1) (catchpitref02_token.j0 (k + 1) y0 y1))
  | 0 => fun _ _ r h => by simp [catchpitref02_token.j0] at h
  | k + 1 => by
    have ih0 := catchpitref02_token.mono_l k
    · intro y0 y1
      unfold catchpitref02_token.j0
      repeat' first
      | (with_reducible exact ih0 _ _)
      | (with_reducible exact LeO.refl _)
      | (with_reducible exact LeO.none _)
      | (with_reducible refine LeO.ite ?_ ?_)
      | (with_reducible refine LeO.bind ?_ (fun _ => ?_))
      | exact ih0 _ _
      | exact LeO.none _
      | refine LeO.ite ?_ ?_
      | refine LeO.bind ?_ (fun _ => ?_)
theorem catchpitref02_token.mono : ∀ a0 k, LeO (catchpitref02_token.f k a0) (catchpitref02_token.f (k + 1) a0) := by
  intro a0 k
  have ih0 := catchpitref02_token.mono_l k
  unfold catchpitref02_token.f
  repeat' first
      | (with_reducible exact ih0 _ _)
      | (with_reducible exact LeO.refl _)
      | (with_reducible exact LeO.none _)
      | (with_reducible refine LeO.ite ?_ ?_)
      | (with_reducible refine LeO.bind ?_ (fun _ => ?_))
      | exact ih0 _ _
      | exact LeO.none _
      | refine LeO.ite ?_ ?_
      | refine LeO.bind ?_ (fun _ => ?_)
set_option maxHeartbeats 8000000 in
set_option maxRecDepth 100000 in
theorem catchpitref02_token.calls (k : Nat) (a0 : Int) (r : Bool) (w : World) (hG : TabOk w) (h : catchpitref02_token.f k a0 = some r) :
    Calls Tryz.prog 32 #[.int .u8 a0] w fun e w' => e = .returned (.bool r) ∧ Drawn0 w w' := by
  have H : (if a0 ≥ 97 then (if a0 ≤ 122 then (catchpitref02_token.j0 k a0 true) else (if a0 ≥ 65 then (if a0 ≤ 90 then (catchpitref02_token.j0 k a0 true) else (if a0 ≥ 48 then (catchpitref02_token.j0 k a0 (decide (a0 ≤ 57))) else (catchpitref02_token.j0 k a0 false))) else (if a0 ≥ 48 then (catchpitref02_token.j0 k a0 (decide (a0 ≤ 57))) else (catchpitref02_token.j0 k a0 false)))) else (if a0 ≥ 65 then (if a0 ≤ 90 then (catchpitref02_token.j0 k a0 true) else (if a0 ≥ 48 then (catchpitref02_token.j0 k a0 (decide (a0 ≤ 57))) else (catchpitref02_token.j0 k a0 false))) else (if a0 ≥ 48 then (catchpitref02_token.j0 k a0 (decide (a0 ≤ 57))) else (catchpitref02_token.j0 k a0 false)))) = some r := h
  clear h
  have HC2 := Aside0.mk H
  clear H
  go_enter Tryz.func32, Tryz.ntmps32
  go_upto_region 1 with (fail)
  go_cut [24] (fun v24 wc => ∃ (kq : Nat) (x24_1 : Bool), v24 = .bool x24_1 ∧ Aside0 (catchpitref02_token.j0 kq a0 x24_1 = some r) ∧ Aside0 (kq ≤ k) ∧ Drawn0 w wc)
  case first =>
    have H := HC2.out
    clear HC2
    by_cases c3 : a0 ≥ 97
    · rw [if_pos c3] at H
      have c3b0 : decide (97 ≤ a0) = true := decide_eq_true c3
      clear c3
      (first | rw [c3b0] | (simp only [i64_w, i32_w]; rw [c3b0]) | skip)
      by_cases c4 : a0 ≤ 122
      · rw [if_pos c4] at H
        have c4b0 : decide (a0 ≤ 122) = true := decide_eq_true c4
        clear c4
        have H' := Aside0.mk H
        clear H
        go_wp2
        go_meet
        case rel => exact ⟨_, (true), (by first | rfl | (simp; done) | (simp [*]; done)), H', ⟨by first | omega | exact Nat.le_refl _⟩, by repeat (first | exact Drawn0.refl _ | apply Drawn0.step)⟩
      · rw [if_neg c4] at H
        have c4b0 : decide (a0 ≤ 122) = false := decide_eq_false c4
        clear c4
        by_cases c5 : a0 ≥ 65
        · rw [if_pos c5] at H
          have c5b0 : decide (65 ≤ a0) = true := decide_eq_true c5
          clear c5
          by_cases c6 : a0 ≤ 90
          · rw [if_pos c6] at H
            have c6b0 : decide (a0 ≤ 90) = true := decide_eq_true c6
            clear c6
            have H' := Aside0.mk H
            clear H
            go_wp2
            go_meet
            case rel => exact ⟨_, (true), (by first | rfl | (simp; done) | (simp [*]; done)), H', ⟨by first | omega | exact Nat.le_refl _⟩, by repeat (first | exact Drawn0.refl _ | apply Drawn0.step)⟩
          · rw [if_neg c6] at H
            have c6b0 : decide (a0 ≤ 90) = false := decide_eq_false c6
            clear c6
            by_cases c7 : a0 ≥ 48
            · rw [if_pos c7] at H
              have c7b0 : decide (48 ≤ a0) = true := decide_eq_true c7
              clear c7
              have H' := Aside0.mk H
              clear H
              go_wp2
              go_meet
              case rel => exact ⟨_, (decide (a0 ≤ 57)), (by first | rfl | (simp; done) | (simp [*]; done)), H', ⟨by first | omega | exact Nat.le_refl _⟩, by repeat (first | exact Drawn0.refl _ | apply Drawn0.step)⟩
            · rw [if_neg c7] at H
              have c7b0 : decide (48 ≤ a0) = false := decide_eq_false c7
              clear c7
              have H' := Aside0.mk H
              clear H
              go_wp2
              go_meet
              case rel => exact ⟨_, (false), (by first | rfl | (simp; done) | (simp [*]; done)), H', ⟨by first | omega | exact Nat.le_refl _⟩, by repeat (first | exact Drawn0.refl _ | apply Drawn0.step)⟩
        · rw [if_neg c5] at H
          have c5b0 : decide (65 ≤ a0) = false := decide_eq_false c5
          clear c5
          by_cases c8 : a0 ≥ 48
          · rw [if_pos c8] at H
            have c8b0 : decide (48 ≤ a0) = true := decide_eq_true c8
            clear c8
            have H' := Aside0.mk H
            clear H
            go_wp2
            go_meet
            case rel => exact ⟨_, (decide (a0 ≤ 57)), (by first | rfl | (simp; done) | (simp [*]; done)), H', ⟨by first | omega | exact Nat.le_refl _⟩, by repeat (first | exact Drawn0.refl _ | apply Drawn0.step)⟩
          · rw [if_neg c8] at H
            have c8b0 : decide (48 ≤ a0) = false := decide_eq_false c8
            clear c8
            have H' := Aside0.mk H
            clear H
            go_wp2
            go_meet
            case rel => exact ⟨_, (false), (by first | rfl | (simp; done) | (simp [*]; done)), H', ⟨by first | omega | exact Nat.le_refl _⟩, by repeat (first | exact Drawn0.refl _ | apply Drawn0.step)⟩
    · rw [if_neg c3] at H
      have c3b0 : decide (97 ≤ a0) = false := decide_eq_false c3
      clear c3
      (first | rw [c3b0] | (simp only [i64_w, i32_w]; rw [c3b0]) | skip)
      by_cases c9 : a0 ≥ 65
      · rw [if_pos c9] at H
        have c9b0 : decide (65 ≤ a0) = true := decide_eq_true c9
        clear c9
        by_cases c10 : a0 ≤ 90
        · rw [if_pos c10] at H
          have c10b0 : decide (a0 ≤ 90) = true := decide_eq_true c10
          clear c10
          have H' := Aside0.mk H
          clear H
          go_wp2
          go_meet
          case rel => exact ⟨_, (true), (by first | rfl | (simp; done) | (simp [*]; done)), H', ⟨by first | omega | exact Nat.le_refl _⟩, by repeat (first | exact Drawn0.refl _ | apply Drawn0.step)⟩
        · rw [if_neg c10] at H
          have c10b0 : decide (a0 ≤ 90) = false := decide_eq_false c10
          clear c10
          by_cases c11 : a0 ≥ 48
          · rw [if_pos c11] at H
            have c11b0 : decide (48 ≤ a0) = true := decide_eq_true c11
            clear c11
            have H' := Aside0.mk H
            clear H
            go_wp2
            go_meet
            case rel => exact ⟨_, (decide (a0 ≤ 57)), (by first | rfl | (simp; done) | (simp [*]; done)), H', ⟨by first | omega | exact Nat.le_refl _⟩, by repeat (first | exact Drawn0.refl _ | apply Drawn0.step)⟩
          · rw [if_neg c11] at H
            have c11b0 : decide (48 ≤ a0) = false := decide_eq_false c11
            clear c11
            have H' := Aside0.mk H
            clear H
            go_wp2
            go_meet
            case rel => exact ⟨_, (false), (by first | rfl | (simp; done) | (simp [*]; done)), H', ⟨by first | omega | exact Nat.le_refl _⟩, by repeat (first | exact Drawn0.refl _ | apply Drawn0.step)⟩
      · rw [if_neg c9] at H
        have c9b0 : decide (65 ≤ a0) = false := decide_eq_false c9
        clear c9
        by_cases c12 : a0 ≥ 48
        · rw [if_pos c12] at H
          have c12b0 : decide (48 ≤ a0) = true := decide_eq_true c12
          clear c12
          have H' := Aside0.mk H
          clear H
          go_wp2
          go_meet
          case rel => exact ⟨_, (decide (a0 ≤ 57)), (by first | rfl | (simp; done) | (simp [*]; done)), H', ⟨by first | omega | exact Nat.le_refl _⟩, by repeat (first | exact Drawn0.refl _ | apply Drawn0.step)⟩
        · rw [if_neg c12] at H
          have c12b0 : decide (48 ≤ a0) = false := decide_eq_false c12
          clear c12
          have H' := Aside0.mk H
          clear H
          go_wp2
          go_meet
          case rel => exact ⟨_, (false), (by first | rfl | (simp; done) | (simp [*]; done)), H', ⟨by first | omega | exact Nat.le_refl _⟩, by repeat (first | exact Drawn0.refl _ | apply Drawn0.step)⟩
  case rest =>
    clear HC2
    try clear c1
    try clear p2
    try clear c3
    try clear c3b0
    try clear c4
    try clear c4b0
    try clear c5
    try clear c5b0
    try clear c6
    try clear c6b0
    try clear c7
    try clear c7b0
    try clear c8
    try clear c8b0
    try clear c9
    try clear c9b0
    try clear c10
    try clear c10b0
    try clear c11
    try clear c11b0
    try clear c12
    try clear c12b0
    obtain ⟨kq, x24_1, rfl, HA, HJ1, ⟨mc1, rfl⟩⟩ := hcut
    cases kq with
    | zero => exact absurd HA.out (by simp [catchpitref02_token.j0])
    | succ kj1 =>
      have H := HA.out
      clear HA
      simp only [catchpitref02_token.j0] at H
      by_cases c13 : x24_1 = true
      · subst c13
        have H1 : (some true) = some r := by rw [if_pos rfl] at H; exact H
        clear H
        have H := H1
        clear H1
        obtain rfl := Option.some.inj H
        go_wp2
        go_ret
        exact ⟨by first | rfl | (simp; done) | (simp [*]; done), by repeat (first | exact Drawn0.refl _ | apply Drawn0.step)⟩
      · replace c13 := Bool.eq_false_iff.mpr c13
        subst c13
        have H1 : (if a0 = 33 then (some true) else (if a0 = 35 then (some true) else (if a0 = 36 then (some true) else (if a0 = 37 then (some true) else (if a0 = 38 then (some true) else (if a0 = 39 then (some true) else (if a0 = 42 then (some true) else (if a0 = 43 then (some true) else (if a0 = 45 then (some true) else (if a0 = 46 then (some true) else (if a0 = 94 then (some true) else (if a0 = 95 then (some true) else (if a0 = 96 then (some true) else (if a0 = 124 then (some true) else (if a0 = 126 then (some true) else (some false)))))))))))))))) = some r := by rw [if_neg (show ¬ (false = true) by decide)] at H; exact H
        clear H
        have H := H1
        clear H1
        by_cases c14 : a0 = 33
        · rw [if_pos c14] at H
          have c14b0 : (a0 == 33) = true := beq_iff_eq.mpr c14
          have c14b1 : (a0 != 33) = false := bne_eq_false_iff_eq.mpr c14
          clear c14
          obtain rfl := Option.some.inj H
          go_wp2
          go_ret
          exact ⟨by first | rfl | (simp; done) | (simp [*]; done), by repeat (first | exact Drawn0.refl _ | apply Drawn0.step)⟩
        · rw [if_neg c14] at H
          have c14b0 : (a0 == 33) = false := beq_eq_false_iff_ne.mpr c14
          have c14b1 : (a0 != 33) = true := bne_iff_ne.mpr c14
          by_cases c15 : a0 = 35
          · rw [if_pos c15] at H
            have c15b0 : (a0 == 35) = true := beq_iff_eq.mpr c15
            have c15b1 : (a0 != 35) = false := bne_eq_false_iff_eq.mpr c15
            clear c15
            obtain rfl := Option.some.inj H
            go_wp2
            go_ret
            exact ⟨by first | rfl | (simp; done) | (simp [*]; done), by repeat (first | exact Drawn0.refl _ | apply Drawn0.step)⟩
          · rw [if_neg c15] at H
            have c15b0 : (a0 == 35) = false := beq_eq_false_iff_ne.mpr c15
            have c15b1 : (a0 != 35) = true := bne_iff_ne.mpr c15
            by_cases c16 : a0 = 36
            · rw [if_pos c16] at H
              have c16b0 : (a0 == 36) = true := beq_iff_eq.mpr c16
              have c16b1 : (a0 != 36) = false := bne_eq_false_iff_eq.mpr c16
              clear c16
              obtain rfl := Option.some.inj H
              go_wp2
              go_ret
              exact ⟨by first | rfl | (simp; done) | (simp [*]; done), by repeat (first | exact Drawn0.refl _ | apply Drawn0.step)⟩
            · rw [if_neg c16] at H
              have c16b0 : (a0 == 36) = false := beq_eq_false_iff_ne.mpr c16
              have c16b1 : (a0 != 36) = true := bne_iff_ne.mpr c16
              by_cases c17 : a0 = 37
              · rw [if_pos c17] at H
                have c17b0 : (a0 == 37) = true := beq_iff_eq.mpr c17
                have c17b1 : (a0 != 37) = false := bne_eq_false_iff_eq.mpr c17
                clear c17
                obtain rfl := Option.some.inj H
                go_wp2
                go_ret
                exact ⟨by first | rfl | (simp; done) | (simp [*]; done), by repeat (first | exact Drawn0.refl _ | apply Drawn0.step)⟩
              · rw [if_neg c17] at H
                have c17b0 : (a0 == 37) = false := beq_eq_false_iff_ne.mpr c17
                have c17b1 : (a0 != 37) = true := bne_iff_ne.mpr c17
                by_cases c18 : a0 = 38
                · rw [if_pos c18] at H
                  have c18b0 : (a0 == 38) = true := beq_iff_eq.mpr c18
                  have c18b1 : (a0 != 38) = false := bne_eq_false_iff_eq.mpr c18
                  clear c18
                  obtain rfl := Option.some.inj H
                  go_wp2
                  go_ret
                  exact ⟨by first | rfl | (simp; done) | (simp [*]; done), by repeat (first | exact Drawn0.refl _ | apply Drawn0.step)⟩
                · rw [if_neg c18] at H
                  have c18b0 : (a0 == 38) = false := beq_eq_false_iff_ne.mpr c18
                  have c18b1 : (a0 != 38) = true := bne_iff_ne.mpr c18
                  by_cases c19 : a0 = 39
                  · rw [if_pos c19] at H
                    have c19b0 : (a0 == 39) = true := beq_iff_eq.mpr c19
                    have c19b1 : (a0 != 39) = false := bne_eq_false_iff_eq.mpr c19
                    clear c19
                    obtain rfl := Option.some.inj H
                    go_wp2
                    go_ret
                    exact ⟨by first | rfl | (simp; done) | (simp [*]; done), by repeat (first | exact Drawn0.refl _ | apply Drawn0.step)⟩
                  · rw [if_neg c19] at H
                    have c19b0 : (a0 == 39) = false := beq_eq_false_iff_ne.mpr c19
                    have c19b1 : (a0 != 39) = true := bne_iff_ne.mpr c19
                    by_cases c20 : a0 = 42
                    · rw [if_pos c20] at H
                      have c20b0 : (a0 == 42) = true := beq_iff_eq.mpr c20
                      have c20b1 : (a0 != 42) = false := bne_eq_false_iff_eq.mpr c20
                      clear c20
                      obtain rfl := Option.some.inj H
                      go_wp2
                      go_ret
                      exact ⟨by first | rfl | (simp; done) | (simp [*]; done), by repeat (first | exact Drawn0.refl _ | apply Drawn0.step)⟩
                    · rw [if_neg c20] at H
                      have c20b0 : (a0 == 42) = false := beq_eq_false_iff_ne.mpr c20
                      have c20b1 : (a0 != 42) = true := bne_iff_ne.mpr c20
                      by_cases c21 : a0 = 43
                      · rw [if_pos c21] at H
                        have c21b0 : (a0 == 43) = true := beq_iff_eq.mpr c21
                        have c21b1 : (a0 != 43) = false := bne_eq_false_iff_eq.mpr c21
                        clear c21
                        obtain rfl := Option.some.inj H
                        go_wp2
                        go_ret
                        exact ⟨by first | rfl | (simp; done) | (simp [*]; done), by repeat (first | exact Drawn0.refl _ | apply Drawn0.step)⟩
                      · rw [if_neg c21] at H
                        have c21b0 : (a0 == 43) = false := beq_eq_false_iff_ne.mpr c21
                        have c21b1 : (a0 != 43) = true := bne_iff_ne.mpr c21
                        by_cases c22 : a0 = 45
                        · rw [if_pos c22] at H
                          have c22b0 : (a0 == 45) = true := beq_iff_eq.mpr c22
                          have c22b1 : (a0 != 45) = false := bne_eq_false_iff_eq.mpr c22
                          clear c22
                          obtain rfl := Option.some.inj H
                          go_wp2
                          go_ret
                          exact ⟨by first | rfl | (simp; done) | (simp [*]; done), by repeat (first | exact Drawn0.refl _ | apply Drawn0.step)⟩
                        · rw [if_neg c22] at H
                          have c22b0 : (a0 == 45) = false := beq_eq_false_iff_ne.mpr c22
                          have c22b1 : (a0 != 45) = true := bne_iff_ne.mpr c22
                          by_cases c23 : a0 = 46
                          · rw [if_pos c23] at H
                            have c23b0 : (a0 == 46) = true := beq_iff_eq.mpr c23
                            have c23b1 : (a0 != 46) = false := bne_eq_false_iff_eq.mpr c23
                            clear c23
                            obtain rfl := Option.some.inj H
                            go_wp2
                            go_ret
                            exact ⟨by first | rfl | (simp; done) | (simp [*]; done), by repeat (first | exact Drawn0.refl _ | apply Drawn0.step)⟩
                          · rw [if_neg c23] at H
                            have c23b0 : (a0 == 46) = false := beq_eq_false_iff_ne.mpr c23
                            have c23b1 : (a0 != 46) = true := bne_iff_ne.mpr c23
                            by_cases c24 : a0 = 94
                            · rw [if_pos c24] at H
                              have c24b0 : (a0 == 94) = true := beq_iff_eq.mpr c24
                              have c24b1 : (a0 != 94) = false := bne_eq_false_iff_eq.mpr c24
                              clear c24
                              obtain rfl := Option.some.inj H
                              go_wp2
                              go_ret
                              exact ⟨by first | rfl | (simp; done) | (simp [*]; done), by repeat (first | exact Drawn0.refl _ | apply Drawn0.step)⟩
                            · rw [if_neg c24] at H
                              have c24b0 : (a0 == 94) = false := beq_eq_false_iff_ne.mpr c24
                              have c24b1 : (a0 != 94) = true := bne_iff_ne.mpr c24
                              by_cases c25 : a0 = 95
                              · rw [if_pos c25] at H
                                have c25b0 : (a0 == 95) = true := beq_iff_eq.mpr c25
                                have c25b1 : (a0 != 95) = false := bne_eq_false_iff_eq.mpr c25
                                clear c25
                                obtain rfl := Option.some.inj H
                                go_wp2
                                go_ret
                                exact ⟨by first | rfl | (simp; done) | (simp [*]; done), by repeat (first | exact Drawn0.refl _ | apply Drawn0.step)⟩
                              · rw [if_neg c25] at H
                                have c25b0 : (a0 == 95) = false := beq_eq_false_iff_ne.mpr c25
                                have c25b1 : (a0 != 95) = true := bne_iff_ne.mpr c25
                                by_cases c26 : a0 = 96
                                · rw [if_pos c26] at H
                                  have c26b0 : (a0 == 96) = true := beq_iff_eq.mpr c26
                                  have c26b1 : (a0 != 96) = false := bne_eq_false_iff_eq.mpr c26
                                  clear c26
                                  obtain rfl := Option.some.inj H
                                  go_wp2
                                  go_ret
                                  exact ⟨by first | rfl | (simp; done) | (simp [*]; done), by repeat (first | exact Drawn0.refl _ | apply Drawn0.step)⟩
                                · rw [if_neg c26] at H
                                  have c26b0 : (a0 == 96) = false := beq_eq_false_iff_ne.mpr c26
                                  have c26b1 : (a0 != 96) = true := bne_iff_ne.mpr c26
                                  by_cases c27 : a0 = 124
                                  · rw [if_pos c27] at H
                                    have c27b0 : (a0 == 124) = true := beq_iff_eq.mpr c27
                                    have c27b1 : (a0 != 124) = false := bne_eq_false_iff_eq.mpr c27
                                    clear c27
                                    obtain rfl := Option.some.inj H
                                    go_wp2
                                    go_ret
                                    exact ⟨by first | rfl | (simp; done) | (simp [*]; done), by repeat (first | exact Drawn0.refl _ | apply Drawn0.step)⟩
                                  · rw [if_neg c27] at H
                                    have c27b0 : (a0 == 124) = false := beq_eq_false_iff_ne.mpr c27
                                    have c27b1 : (a0 != 124) = true := bne_iff_ne.mpr c27
                                    by_cases c28 : a0 = 126
                                    · rw [if_pos c28] at H
                                      have c28b0 : (a0 == 126) = true := beq_iff_eq.mpr c28
                                      have c28b1 : (a0 != 126) = false := bne_eq_false_iff_eq.mpr c28
                                      clear c28
                                      obtain rfl := Option.some.inj H
                                      go_wp2
                                      go_ret
                                      exact ⟨by first | rfl | (simp; done) | (simp [*]; done), by repeat (first | exact Drawn0.refl _ | apply Drawn0.step)⟩
                                    · rw [if_neg c28] at H
                                      have c28b0 : (a0 == 126) = false := beq_eq_false_iff_ne.mpr c28
                                      have c28b1 : (a0 != 126) = true := bne_iff_ne.mpr c28
                                      obtain rfl := Option.some.inj H
                                      go_wp2
                                      go_ret
                                      exact ⟨by first | rfl | (simp; done) | (simp [*]; done), by repeat (first | exact Drawn0.refl _ | apply Drawn0.step)⟩
end Go.Proofs.YtmmbpbgcobmifaaGreatDoor.Pr
end
section
namespace Go.Proofs.YtmmbpbgcobmifaaGreatDoor.Pr
open Go.RowKit Go.Proofs.YtmmbpbgcobmifaaGreatDoorH Go.Proofs.YtmmbpbgcobmifaaGreatDoorW.PrintWords Go.Proofs.YtmmbpbgcobmifaaGreatDoorW.PrintLast Go.Proofs.YtmmbpbgcobmifaaGreatDoorW.PrintMore
attribute [local go_sem] max2_int min2_int max_two min_two max_three min_three max_four min_four   -- for this text's walks alone
set_option linter.unusedVariables false
set_option linter.unusedSimpArgs false
def catchpitref02_Token.l0 : Nat → ByteArray → Int → Option (Bool)
  | 0, _, _ => none
  | k + 1, x0, x3 => if x3 < (x0.size : Int) then (if 0 ≤ x3 then ((catchpitref02_token.f k (bt x0 x3)).bind fun t106 => (if t106 = true then (catchpitref02_Token.l0 k x0 (wrap64 (x3 + 1))) else (some false))) else (none)) else (some (decide ((x0.size : Int) > 0)))
def catchpitref02_Token.f (k : Nat) (a0 : ByteArray) : Option (Bool) := catchpitref02_Token.l0 k a0 0
theorem catchpitref02_Token.mono_l : ∀ k, (∀ y0 y1, LeO (catchpitref02_Token.l0 k y0 y1) (catchpitref02_Token.l0 (k + 1) y0 y1))
  | 0 => fun _ _ r h => by simp [catchpitref02_Token.l0] at h
  | k + 1 => by
    have ih0 := catchpitref02_Token.mono_l k
    · intro y0 y1
      unfold catchpitref02_Token.l0
      repeat' first
      | (with_reducible exact ih0 _ _)
      | (with_reducible exact catchpitref02_token.mono _ _)
      | (with_reducible exact LeO.refl _)
      | (with_reducible exact LeO.none _)
      | (with_reducible refine LeO.ite ?_ ?_)
      | (with_reducible refine LeO.bind ?_ (fun _ => ?_))
      | exact ih0 _ _
      | exact catchpitref02_token.mono _ _
      | exact LeO.none _
      | refine LeO.ite ?_ ?_
      | refine LeO.bind ?_ (fun _ => ?_)
theorem catchpitref02_Token.mono : ∀ a0 k, LeO (catchpitref02_Token.f k a0) (catchpitref02_Token.f (k + 1) a0) := by
  intro a0 k
  have ih0 := catchpitref02_Token.mono_l k
  unfold catchpitref02_Token.f
  repeat' first
      | (with_reducible exact ih0 _ _)
      | (with_reducible exact catchpitref02_token.mono _ _)
      | (with_reducible exact LeO.refl _)
      | (with_reducible exact LeO.none _)
      | (with_reducible refine LeO.ite ?_ ?_)
      | (with_reducible refine LeO.bind ?_ (fun _ => ?_))
      | exact ih0 _ _
      | exact catchpitref02_token.mono _ _
      | exact LeO.none _
      | refine LeO.ite ?_ ?_
      | refine LeO.bind ?_ (fun _ => ?_)
set_option maxHeartbeats 8000000 in
set_option maxRecDepth 100000 in
theorem catchpitref02_Token.calls (k : Nat) (a0 : ByteArray) (r : Bool) (w : World) (hG : TabOk w) (h : catchpitref02_Token.f k a0 = some r) :
    Calls Tryz.prog 20 #[.string a0] w fun e w' => e = .returned (.bool r) ∧ Drawn0 w w' := by
  have H : (catchpitref02_Token.l0 k a0 0) = some r := h
  clear h
  have H' := Aside0.mk H
  clear H
  go_enter Tryz.func20, Tryz.ntmps20
  go_wp2
  go_loopg [3] k (fun kq v3 w' => ∃ (x3_1 : Int), v3 = .int .i64 x3_1 ∧ Aside0 (catchpitref02_Token.l0 kq a0 x3_1 = some r) ∧ Aside0 (kq ≤ k) ∧ Drawn0 w w')
  case atStart => exact ⟨(0), (by first | rfl | (simp; done) | (simp [*]; done)), H', ⟨Nat.le_refl _⟩, by repeat (first | exact Drawn0.refl _ | apply Drawn0.step)⟩
  case round =>
    clear H'
    obtain ⟨x3_1, rfl, HA, HK1, ⟨m1, rfl⟩⟩ := hrel
    cases gk with
    | zero => exact absurd HA.out (by simp [catchpitref02_Token.l0])
    | succ k1 =>
      have H := HA.out
      clear HA
      simp only [catchpitref02_Token.l0] at H
      by_cases c2 : x3_1 < (a0.size : Int)
      · rw [if_pos c2] at H
        have c2b0 : decide (x3_1 < (a0.size : Int)) = true := decide_eq_true c2
        clear c2
        by_cases c3 : 0 ≤ x3_1
        · rw [if_pos c3] at H
          have c3b0 : decide (0 ≤ x3_1) = true := decide_eq_true c3
          clear c3
          replace H := Option.bind_eq_some_iff.mp H
          obtain ⟨t106, A50, H⟩ := H
          replace H : (if t106 = true then (catchpitref02_Token.l0 k1 a0 (wrap64 (x3_1 + 1))) else (some false)) = some r := H
          have A5 := Aside0.mk A50
          clear A50
          by_cases c6 : t106 = true
          · subst c6
            have H1 : (catchpitref02_Token.l0 k1 a0 (wrap64 (x3_1 + 1))) = some r := by rw [if_pos rfl] at H; exact H
            clear H
            have H := H1
            clear H1
            have H' := Aside0.mk H
            clear H
            have p4 : 0 ≤ (x3_1 : Int) := of_decide_eq_true (by first | (with_reducible assumption) | assumption)
            have q4 : x3_1 < (a0.size : Int) := of_decide_eq_true (by first | (with_reducible assumption) | assumption)
            have hx4 := bt_at a0 x3_1
            replace p4 := eq_true p4
            replace q4 := eq_true q4
            go_wp2_with (first | ((with_reducible refine gate_callee (f := 32) rfl ?_); refine goesL_ (some 13) rfl rfl Tryz.func32 (by kernel_rfl) rfl #[.int .u8 (bt a0 x3_1)] rfl (by (try simp only [List.map_toArray, List.map_cons, List.map_nil]); first | done | rfl | (simp only [List.length_drop, List.length_take]; rfl)) ?_; (with_reducible refine (catchpitref02_token.calls k1 (bt a0 x3_1) true _ ?side1 A5.out).mono ?_); (case side1 => first | exact hG | exact TabOk.drewN hG _ | exact TabOk.drewN (TabOk.drewN hG _) _ | exact TabOk.below hG (by repeat (first | (with_reducible first | exact HB.out | apply below_alloc | apply pw_below_drewN | apply below_drew1) | exact HB.out))); rintro e w' ⟨rfl, ⟨nd, rfl⟩⟩; refine ⟨_, rfl, ?_⟩))
            go_roundg k1
            case measure => have := HK1.out; omega
            case rel => exact ⟨(wrap64 (x3_1 + 1)), (by first | rfl | (simp; done) | (simp [*]; done)), H', ⟨by have := HK1.out; omega⟩, by repeat (first | exact Drawn0.refl _ | apply Drawn0.step)⟩
          · replace c6 := Bool.eq_false_iff.mpr c6
            subst c6
            have H1 : (some false) = some r := by rw [if_neg (show ¬ (false = true) by decide)] at H; exact H
            clear H
            have H := H1
            clear H1
            obtain rfl := Option.some.inj H
            have p4 : 0 ≤ (x3_1 : Int) := of_decide_eq_true (by first | (with_reducible assumption) | assumption)
            have q4 : x3_1 < (a0.size : Int) := of_decide_eq_true (by first | (with_reducible assumption) | assumption)
            have hx4 := bt_at a0 x3_1
            replace p4 := eq_true p4
            replace q4 := eq_true q4
            go_wp2_with (first | ((with_reducible refine gate_callee (f := 32) rfl ?_); refine goesL_ (some 13) rfl rfl Tryz.func32 (by kernel_rfl) rfl #[.int .u8 (bt a0 x3_1)] rfl (by (try simp only [List.map_toArray, List.map_cons, List.map_nil]); first | done | rfl | (simp only [List.length_drop, List.length_take]; rfl)) ?_; (with_reducible refine (catchpitref02_token.calls k1 (bt a0 x3_1) false _ ?side1 A5.out).mono ?_); (case side1 => first | exact hG | exact TabOk.drewN hG _ | exact TabOk.drewN (TabOk.drewN hG _) _ | exact TabOk.below hG (by repeat (first | (with_reducible first | exact HB.out | apply below_alloc | apply pw_below_drewN | apply below_drew1) | exact HB.out))); rintro e w' ⟨rfl, ⟨nd, rfl⟩⟩; refine ⟨_, rfl, ?_⟩))
            go_ret
            exact ⟨by first | rfl | (simp; done) | (simp [*]; done), by repeat (first | exact Drawn0.refl _ | apply Drawn0.step)⟩
        · rw [if_neg c3] at H
          exact absurd H (by simp)
      · rw [if_neg c2] at H
        have c2b0 : decide (x3_1 < (a0.size : Int)) = false := decide_eq_false c2
        clear c2
        obtain rfl := Option.some.inj H
        go_wp2
        go_ret
        exact ⟨by first | rfl | (simp; done) | (simp [*]; done), by repeat (first | exact Drawn0.refl _ | apply Drawn0.step)⟩
end Go.Proofs.YtmmbpbgcobmifaaGreatDoor.Pr
end
section
namespace Go.Proofs.YtmmbpbgcobmifaaGreatDoor.Pr
end Go.Proofs.YtmmbpbgcobmifaaGreatDoor.Pr
namespace Go.Proofs.YtmmbpbgcobmifaaGreatDoorH
open Go.RowKit Go.Proofs.YtmmbpbgcobmifaaGreatDoorW.PrintWords Go.Proofs.YtmmbpbgcobmifaaGreatDoorW.PrintLast Go.Proofs.YtmmbpbgcobmifaaGreatDoorW.PrintMore Go.Proofs.YtmmbpbgcobmifaaGreatDoor.Pr
theorem ref02_token (k : Nat) (c : Int) (h0 : 0 ≤ c) (h1 : c ≤ 255) : catchpitref02_token.f (k + 1) c = some (tokI c) := by
  have e : catchpitref02_token.f (k + 1) c = catchpitref02_token.f 1 c := by
    unfold catchpitref02_token.f
    simp only [catchpitref02_token.j0]
  rw [e]
  obtain ⟨n, rfl⟩ := Int.eq_ofNat_of_zero_le h0
  have : ∀ n : Fin 256, catchpitref02_token.f 1 (n.val : Int) = some (tokI (n.val : Int)) := by decide +kernel
  exact this ⟨n, by omega⟩
theorem ref02_Token_l0 (s : ByteArray) (hs : s.size ≤ 140737488355328) (d : Nat) : ∀ (k i : Nat), i ≤ s.size → s.size - i = d → d + 1 < k →
    catchpitref02_Token.l0 k s (i : Int) = some (allFrom tokI s i && decide (0 < s.size)) := by
  induction d with
  | zero =>
    intro k i h1 hd hk
    obtain ⟨k, rfl⟩ : ∃ m, k = m + 1 := ⟨k - 1, by omega⟩
    simp only [catchpitref02_Token.l0]
    rw [if_neg (by omega), allFrom_end _ _ _ (by omega), Bool.true_and]
    congr 1
    rw [decide_eq_decide]
    omega
  | succ d ih =>
    intro k i h1 hd hk
    obtain ⟨k, rfl⟩ : ∃ m, k = m + 2 := ⟨k - 2, by omega⟩
    have hb := bt_range s i
    rw [catchpitref02_Token.l0, if_pos (by omega), if_pos (by omega), ref02_token k _ hb.1 hb.2, Option.bind_some, allFrom_step tokI s i (by omega)]
    cases hp : tokI (bt s i) with
    | true =>
      rw [if_pos rfl, wrap_up (by omega) (show (i : Int) < (s.size : Int) by omega) hs, Bool.true_and]
      exact ih (k + 1) (i + 1) (by omega) (by omega) (by omega)
    | false => rfl
theorem ref02_Token (s : ByteArray) (hs : s.size ≤ 140737488355328) : Ev (fun k => catchpitref02_Token.f k s) (tokB s) := by
  refine ⟨s.size + 2, fun k hk => ?_⟩
  show catchpitref02_Token.l0 k s 0 = _
  have := ref02_Token_l0 s hs s.size k 0 (by omega) (by omega) (by omega)
  rw [show ((0 : Nat) : Int) = 0 from rfl] at this
  rw [this, allFrom_zero]
  unfold tokB
  rw [isEmpty_size, Bool.and_comm]
  congr 2
  rw [← decide_not, decide_eq_decide]
  omega
end Go.Proofs.YtmmbpbgcobmifaaGreatDoorH
end
section
namespace Go.Proofs.YtmmbpbgcobmifaaGreatDoor.Pr
open Go.RowKit Go.Proofs.YtmmbpbgcobmifaaGreatDoorH Go.Proofs.YtmmbpbgcobmifaaGreatDoorW.PrintWords Go.Proofs.YtmmbpbgcobmifaaGreatDoorW.PrintLast Go.Proofs.YtmmbpbgcobmifaaGreatDoorW.PrintMore
attribute [local go_sem] max2_int min2_int max_two min_two max_three min_three max_four min_four   -- for this text's walks alone
set_option linter.unusedVariables false
set_option linter.unusedSimpArgs false
def catchpitref02_Byte.f (a0 : Int) : Option (Bool) := if a0 = 9 then (some true) else (if a0 ≥ 32 then (if a0 ≤ 126 then (some true) else (some (decide (a0 ≥ 128)))) else (some (decide (a0 ≥ 128))))
set_option maxHeartbeats 8000000 in
set_option maxRecDepth 100000 in
theorem catchpitref02_Byte.calls (a0 : Int) (r : Bool) (w : World) (hG : TabOk w) (h : catchpitref02_Byte.f a0 = some r) :
    Calls Tryz.prog 46 #[.int .u8 a0] w fun e w' => e = .returned (.bool r) ∧ Drawn0 w w' := by
  have H : (if a0 = 9 then (some true) else (if a0 ≥ 32 then (if a0 ≤ 126 then (some true) else (some (decide (a0 ≥ 128)))) else (some (decide (a0 ≥ 128))))) = some r := h
  clear h
  by_cases c2 : a0 = 9
  · rw [if_pos c2] at H
    have c2b0 : (a0 == 9) = true := beq_iff_eq.mpr c2
    have c2b1 : (a0 != 9) = false := bne_eq_false_iff_eq.mpr c2
    clear c2
    obtain rfl := Option.some.inj H
    go_enter Tryz.func46, Tryz.ntmps46
    go_wp2
    go_ret
    exact ⟨by first | rfl | (simp; done) | (simp [*]; done), by repeat (first | exact Drawn0.refl _ | apply Drawn0.step)⟩
  · rw [if_neg c2] at H
    have c2b0 : (a0 == 9) = false := beq_eq_false_iff_ne.mpr c2
    have c2b1 : (a0 != 9) = true := bne_iff_ne.mpr c2
    by_cases c3 : a0 ≥ 32
    · rw [if_pos c3] at H
      have c3b0 : decide (32 ≤ a0) = true := decide_eq_true c3
      clear c3
      by_cases c4 : a0 ≤ 126
      · rw [if_pos c4] at H
        have c4b0 : decide (a0 ≤ 126) = true := decide_eq_true c4
        clear c4
        obtain rfl := Option.some.inj H
        go_enter Tryz.func46, Tryz.ntmps46
        go_wp2
        go_ret
        exact ⟨by first | rfl | (simp; done) | (simp [*]; done), by repeat (first | exact Drawn0.refl _ | apply Drawn0.step)⟩
      · rw [if_neg c4] at H
        have c4b0 : decide (a0 ≤ 126) = false := decide_eq_false c4
        clear c4
        obtain rfl := Option.some.inj H
        go_enter Tryz.func46, Tryz.ntmps46
        go_wp2
        go_ret
        exact ⟨by first | rfl | (simp; done) | (simp [*]; done), by repeat (first | exact Drawn0.refl _ | apply Drawn0.step)⟩
    · rw [if_neg c3] at H
      have c3b0 : decide (32 ≤ a0) = false := decide_eq_false c3
      clear c3
      obtain rfl := Option.some.inj H
      go_enter Tryz.func46, Tryz.ntmps46
      go_wp2
      go_ret
      exact ⟨by first | rfl | (simp; done) | (simp [*]; done), by repeat (first | exact Drawn0.refl _ | apply Drawn0.step)⟩
end Go.Proofs.YtmmbpbgcobmifaaGreatDoor.Pr
end
section
namespace Go.Proofs.YtmmbpbgcobmifaaGreatDoor.Pr
open Go.RowKit Go.Proofs.YtmmbpbgcobmifaaGreatDoorH Go.Proofs.YtmmbpbgcobmifaaGreatDoorW.PrintWords Go.Proofs.YtmmbpbgcobmifaaGreatDoorW.PrintLast Go.Proofs.YtmmbpbgcobmifaaGreatDoorW.PrintMore
attribute [local go_sem] max2_int min2_int max_two min_two max_three min_three max_four min_four   -- for this text's walks alone
set_option linter.unusedVariables false
set_option linter.unusedSimpArgs false
def catchpitref02_Text.l0 : Nat → ByteArray → Int → Option (Bool)
  | 0, _, _ => none
  | k + 1, x0, x3 => if x3 < (x0.size : Int) then (if 0 ≤ x3 then ((catchpitref02_Byte.f (bt x0 x3)).bind fun t107 => (if t107 = true then (catchpitref02_Text.l0 k x0 (wrap64 (x3 + 1))) else (some false))) else (none)) else (some true)
def catchpitref02_Text.f (k : Nat) (a0 : ByteArray) : Option (Bool) := catchpitref02_Text.l0 k a0 0
theorem catchpitref02_Text.mono_l : ∀ k, (∀ y0 y1, LeO (catchpitref02_Text.l0 k y0 y1) (catchpitref02_Text.l0 (k + 1) y0 y1))
  | 0 => fun _ _ r h => by simp [catchpitref02_Text.l0] at h
  | k + 1 => by
    have ih0 := catchpitref02_Text.mono_l k
    · intro y0 y1
      unfold catchpitref02_Text.l0
      repeat' first
      | (with_reducible exact ih0 _ _)
      | (with_reducible exact LeO.refl _)
      | (with_reducible exact LeO.none _)
      | (with_reducible refine LeO.ite ?_ ?_)
      | (with_reducible refine LeO.bind ?_ (fun _ => ?_))
      | exact ih0 _ _
      | exact LeO.none _
      | refine LeO.ite ?_ ?_
      | refine LeO.bind ?_ (fun _ => ?_)
theorem catchpitref02_Text.mono : ∀ a0 k, LeO (catchpitref02_Text.f k a0) (catchpitref02_Text.f (k + 1) a0) := by
  intro a0 k
  have ih0 := catchpitref02_Text.mono_l k
  unfold catchpitref02_Text.f
  repeat' first
      | (with_reducible exact ih0 _ _)
      | (with_reducible exact LeO.refl _)
      | (with_reducible exact LeO.none _)
      | (with_reducible refine LeO.ite ?_ ?_)
      | (with_reducible refine LeO.bind ?_ (fun _ => ?_))
      | exact ih0 _ _
      | exact LeO.none _
      | refine LeO.ite ?_ ?_
      | refine LeO.bind ?_ (fun _ => ?_)
set_option maxHeartbeats 8000000 in
set_option maxRecDepth 100000 in
theorem catchpitref02_Text.calls (k : Nat) (a0 : ByteArray) (r : Bool) (w : World) (hG : TabOk w) (h : catchpitref02_Text.f k a0 = some r) :
    Calls Tryz.prog 33 #[.string a0] w fun e w' => e = .returned (.bool r) ∧ Drawn0 w w' := by
  have H : (catchpitref02_Text.l0 k a0 0) = some r := h
  clear h
  have H' := Aside0.mk H
  clear H
  go_enter Tryz.func33, Tryz.ntmps33
  go_wp2
  go_loopg [3] k (fun kq v3 w' => ∃ (x3_1 : Int), v3 = .int .i64 x3_1 ∧ Aside0 (catchpitref02_Text.l0 kq a0 x3_1 = some r) ∧ Aside0 (kq ≤ k) ∧ Drawn0 w w')
  case atStart => exact ⟨(0), (by first | rfl | (simp; done) | (simp [*]; done)), H', ⟨Nat.le_refl _⟩, by repeat (first | exact Drawn0.refl _ | apply Drawn0.step)⟩
  case round =>
    clear H'
    obtain ⟨x3_1, rfl, HA, HK1, ⟨m1, rfl⟩⟩ := hrel
    cases gk with
    | zero => exact absurd HA.out (by simp [catchpitref02_Text.l0])
    | succ k1 =>
      have H := HA.out
      clear HA
      simp only [catchpitref02_Text.l0] at H
      by_cases c2 : x3_1 < (a0.size : Int)
      · rw [if_pos c2] at H
        have c2b0 : decide (x3_1 < (a0.size : Int)) = true := decide_eq_true c2
        clear c2
        by_cases c3 : 0 ≤ x3_1
        · rw [if_pos c3] at H
          have c3b0 : decide (0 ≤ x3_1) = true := decide_eq_true c3
          clear c3
          replace H := Option.bind_eq_some_iff.mp H
          obtain ⟨t107, A50, H⟩ := H
          replace H : (if t107 = true then (catchpitref02_Text.l0 k1 a0 (wrap64 (x3_1 + 1))) else (some false)) = some r := H
          have A5 := Aside0.mk A50
          clear A50
          by_cases c6 : t107 = true
          · subst c6
            have H1 : (catchpitref02_Text.l0 k1 a0 (wrap64 (x3_1 + 1))) = some r := by rw [if_pos rfl] at H; exact H
            clear H
            have H := H1
            clear H1
            have H' := Aside0.mk H
            clear H
            have p4 : 0 ≤ (x3_1 : Int) := of_decide_eq_true (by first | (with_reducible assumption) | assumption)
            have q4 : x3_1 < (a0.size : Int) := of_decide_eq_true (by first | (with_reducible assumption) | assumption)
            have hx4 := bt_at a0 x3_1
            replace p4 := eq_true p4
            replace q4 := eq_true q4
            go_wp2_with (first | ((with_reducible refine gate_callee (f := 46) rfl ?_); refine goesL_ (some 13) rfl rfl Tryz.func46 (by kernel_rfl) rfl #[.int .u8 (bt a0 x3_1)] rfl (by (try simp only [List.map_toArray, List.map_cons, List.map_nil]); first | done | rfl | (simp only [List.length_drop, List.length_take]; rfl)) ?_; (with_reducible refine (catchpitref02_Byte.calls (bt a0 x3_1) true _ ?side1 A5.out).mono ?_); (case side1 => first | exact hG | exact TabOk.drewN hG _ | exact TabOk.drewN (TabOk.drewN hG _) _ | exact TabOk.below hG (by repeat (first | (with_reducible first | exact HB.out | apply below_alloc | apply pw_below_drewN | apply below_drew1) | exact HB.out))); rintro e w' ⟨rfl, ⟨nd, rfl⟩⟩; refine ⟨_, rfl, ?_⟩))
            go_roundg k1
            case measure => have := HK1.out; omega
            case rel => exact ⟨(wrap64 (x3_1 + 1)), (by first | rfl | (simp; done) | (simp [*]; done)), H', ⟨by have := HK1.out; omega⟩, by repeat (first | exact Drawn0.refl _ | apply Drawn0.step)⟩
          · replace c6 := Bool.eq_false_iff.mpr c6
            subst c6
            have H1 : (some false) = some r := by rw [if_neg (show ¬ (false = true) by decide)] at H; exact H
            clear H
            have H := H1
            clear H1
            obtain rfl := Option.some.inj H
            have p4 : 0 ≤ (x3_1 : Int) := of_decide_eq_true (by first | (with_reducible assumption) | assumption)
            have q4 : x3_1 < (a0.size : Int) := of_decide_eq_true (by first | (with_reducible assumption) | assumption)
            have hx4 := bt_at a0 x3_1
            replace p4 := eq_true p4
            replace q4 := eq_true q4
            go_wp2_with (first | ((with_reducible refine gate_callee (f := 46) rfl ?_); refine goesL_ (some 13) rfl rfl Tryz.func46 (by kernel_rfl) rfl #[.int .u8 (bt a0 x3_1)] rfl (by (try simp only [List.map_toArray, List.map_cons, List.map_nil]); first | done | rfl | (simp only [List.length_drop, List.length_take]; rfl)) ?_; (with_reducible refine (catchpitref02_Byte.calls (bt a0 x3_1) false _ ?side1 A5.out).mono ?_); (case side1 => first | exact hG | exact TabOk.drewN hG _ | exact TabOk.drewN (TabOk.drewN hG _) _ | exact TabOk.below hG (by repeat (first | (with_reducible first | exact HB.out | apply below_alloc | apply pw_below_drewN | apply below_drew1) | exact HB.out))); rintro e w' ⟨rfl, ⟨nd, rfl⟩⟩; refine ⟨_, rfl, ?_⟩))
            go_ret
            exact ⟨by first | rfl | (simp; done) | (simp [*]; done), by repeat (first | exact Drawn0.refl _ | apply Drawn0.step)⟩
        · rw [if_neg c3] at H
          exact absurd H (by simp)
      · rw [if_neg c2] at H
        have c2b0 : decide (x3_1 < (a0.size : Int)) = false := decide_eq_false c2
        clear c2
        obtain rfl := Option.some.inj H
        go_wp2
        go_ret
        exact ⟨by first | rfl | (simp; done) | (simp [*]; done), by repeat (first | exact Drawn0.refl _ | apply Drawn0.step)⟩
end Go.Proofs.YtmmbpbgcobmifaaGreatDoor.Pr
end
section
namespace Go.Proofs.YtmmbpbgcobmifaaGreatDoor.Pr
open Go.RowKit Go.Proofs.YtmmbpbgcobmifaaGreatDoorH Go.Proofs.YtmmbpbgcobmifaaGreatDoorW.PrintWords Go.Proofs.YtmmbpbgcobmifaaGreatDoorW.PrintLast Go.Proofs.YtmmbpbgcobmifaaGreatDoorW.PrintMore
attribute [local go_sem] max2_int min2_int max_two min_two max_three min_three max_four min_four   -- for this text's walks alone
set_option linter.unusedVariables false
set_option linter.unusedSimpArgs false
def catchpitref02_Value.f (k : Nat) (a0 : ByteArray) : Option (Bool) := (catchpitref02_Text.f k a0).bind fun t108 => (if t108 = true then (if (a0.size : Int) = 0 then (some true) else (if 0 < (a0.size : Int) then ((catchpitref02_blank.f (bt a0 0)).bind fun t109 => (if t109 = true then (some false) else (if 0 ≤ (wrap64 ((a0.size : Int) - 1)) then (if (wrap64 ((a0.size : Int) - 1)) < (a0.size : Int) then ((catchpitref02_blank.f (bt a0 (wrap64 ((a0.size : Int) - 1)))).bind fun t110 => (some (!t110))) else (none)) else (none)))) else (none))) else (some false))
theorem catchpitref02_Value.mono : ∀ a0 k, LeO (catchpitref02_Value.f k a0) (catchpitref02_Value.f (k + 1) a0) := by
  intro a0 k
  unfold catchpitref02_Value.f
  repeat' first
      | (with_reducible exact catchpitref02_Text.mono _ _)
      | (with_reducible exact LeO.refl _)
      | (with_reducible exact LeO.none _)
      | (with_reducible refine LeO.ite ?_ ?_)
      | (with_reducible refine LeO.bind ?_ (fun _ => ?_))
      | exact catchpitref02_Text.mono _ _
      | exact LeO.none _
      | refine LeO.ite ?_ ?_
      | refine LeO.bind ?_ (fun _ => ?_)
set_option maxHeartbeats 8000000 in
set_option maxRecDepth 100000 in
theorem catchpitref02_Value.calls (k : Nat) (a0 : ByteArray) (r : Bool) (w : World) (hG : TabOk w) (h : catchpitref02_Value.f k a0 = some r) :
    Calls Tryz.prog 21 #[.string a0] w fun e w' => e = .returned (.bool r) ∧ Drawn0 w w' := by
  have H : ((catchpitref02_Text.f k a0).bind fun t108 => (if t108 = true then (if (a0.size : Int) = 0 then (some true) else (if 0 < (a0.size : Int) then ((catchpitref02_blank.f (bt a0 0)).bind fun t109 => (if t109 = true then (some false) else (if 0 ≤ (wrap64 ((a0.size : Int) - 1)) then (if (wrap64 ((a0.size : Int) - 1)) < (a0.size : Int) then ((catchpitref02_blank.f (bt a0 (wrap64 ((a0.size : Int) - 1)))).bind fun t110 => (some (!t110))) else (none)) else (none)))) else (none))) else (some false))) = some r := h
  clear h
  replace H := Option.bind_eq_some_iff.mp H
  obtain ⟨t108, A20, H⟩ := H
  replace H : (if t108 = true then (if (a0.size : Int) = 0 then (some true) else (if 0 < (a0.size : Int) then ((catchpitref02_blank.f (bt a0 0)).bind fun t109 => (if t109 = true then (some false) else (if 0 ≤ (wrap64 ((a0.size : Int) - 1)) then (if (wrap64 ((a0.size : Int) - 1)) < (a0.size : Int) then ((catchpitref02_blank.f (bt a0 (wrap64 ((a0.size : Int) - 1)))).bind fun t110 => (some (!t110))) else (none)) else (none)))) else (none))) else (some false)) = some r := H
  have A2 := Aside0.mk A20
  clear A20
  by_cases c3 : t108 = true
  · subst c3
    have H1 : (if (a0.size : Int) = 0 then (some true) else (if 0 < (a0.size : Int) then ((catchpitref02_blank.f (bt a0 0)).bind fun t109 => (if t109 = true then (some false) else (if 0 ≤ (wrap64 ((a0.size : Int) - 1)) then (if (wrap64 ((a0.size : Int) - 1)) < (a0.size : Int) then ((catchpitref02_blank.f (bt a0 (wrap64 ((a0.size : Int) - 1)))).bind fun t110 => (some (!t110))) else (none)) else (none)))) else (none))) = some r := by rw [if_pos rfl] at H; exact H
    clear H
    have H := H1
    clear H1
    by_cases c4 : (a0.size : Int) = 0
    · rw [if_pos c4] at H
      have c4b0 : ((a0.size : Int) == 0) = true := beq_iff_eq.mpr c4
      have c4b1 : ((a0.size : Int) != 0) = false := bne_eq_false_iff_eq.mpr c4
      clear c4
      obtain rfl := Option.some.inj H
      go_enter Tryz.func21, Tryz.ntmps21
      go_wp2_with (first | ((with_reducible refine gate_callee (f := 33) rfl ?_); refine goesL_ (some 4) rfl rfl Tryz.func33 (by kernel_rfl) rfl #[.string a0] rfl (by (try simp only [List.map_toArray, List.map_cons, List.map_nil]); first | done | rfl | (simp only [List.length_drop, List.length_take]; rfl)) ?_; (with_reducible refine (catchpitref02_Text.calls k a0 true _ ?side1 A2.out).mono ?_); (case side1 => first | exact hG | exact TabOk.drewN hG _ | exact TabOk.drewN (TabOk.drewN hG _) _ | exact TabOk.below hG (by repeat (first | (with_reducible first | exact HB.out | apply below_alloc | apply pw_below_drewN | apply below_drew1) | exact HB.out))); rintro e w' ⟨rfl, ⟨nd, rfl⟩⟩; refine ⟨_, rfl, ?_⟩))
      go_ret
      exact ⟨by first | rfl | (simp; done) | (simp [*]; done), by repeat (first | exact Drawn0.refl _ | apply Drawn0.step)⟩
    · rw [if_neg c4] at H
      have c4b0 : ((a0.size : Int) == 0) = false := beq_eq_false_iff_ne.mpr c4
      have c4b1 : ((a0.size : Int) != 0) = true := bne_iff_ne.mpr c4
      by_cases c5 : 0 < (a0.size : Int)
      · rw [if_pos c5] at H
        have c5b0 : decide (0 < (a0.size : Int)) = true := decide_eq_true c5
        have c5b1 : decide (0 < a0.size) = true := decide_eq_true (by omega)
        clear c5
        replace H := Option.bind_eq_some_iff.mp H
        obtain ⟨t109, A70, H⟩ := H
        replace H : (if t109 = true then (some false) else (if 0 ≤ (wrap64 ((a0.size : Int) - 1)) then (if (wrap64 ((a0.size : Int) - 1)) < (a0.size : Int) then ((catchpitref02_blank.f (bt a0 (wrap64 ((a0.size : Int) - 1)))).bind fun t110 => (some (!t110))) else (none)) else (none))) = some r := H
        have A7 := Aside0.mk A70
        clear A70
        by_cases c8 : t109 = true
        · subst c8
          have H1 : (some false) = some r := by rw [if_pos rfl] at H; exact H
          clear H
          have H := H1
          clear H1
          obtain rfl := Option.some.inj H
          go_enter Tryz.func21, Tryz.ntmps21
          go_wp2_with (first | ((with_reducible refine gate_callee (f := 33) rfl ?_); refine goesL_ (some 4) rfl rfl Tryz.func33 (by kernel_rfl) rfl #[.string a0] rfl (by (try simp only [List.map_toArray, List.map_cons, List.map_nil]); first | done | rfl | (simp only [List.length_drop, List.length_take]; rfl)) ?_; (with_reducible refine (catchpitref02_Text.calls k a0 true _ ?side1 A2.out).mono ?_); (case side1 => first | exact hG | exact TabOk.drewN hG _ | exact TabOk.drewN (TabOk.drewN hG _) _ | exact TabOk.below hG (by repeat (first | (with_reducible first | exact HB.out | apply below_alloc | apply pw_below_drewN | apply below_drew1) | exact HB.out))); rintro e w' ⟨rfl, ⟨nd, rfl⟩⟩; refine ⟨_, rfl, ?_⟩; have p6 : 0 ≤ (0 : Int) := (by omega); have q6 : 0 < a0.size := (by have : (0 : Int) < (a0.size : Int) := of_decide_eq_true (by first | (with_reducible assumption) | assumption); omega); have hx6 : ∀ h : 0 < a0.size, ((a0[0]'h).toNat : Int) = bt a0 0 := bt_at a0 0; clear p6; have qi6 : (0 < (a0.size : Int)) = True := eq_true (of_decide_eq_true (by first | (with_reducible assumption) | assumption)); replace q6 := eq_true q6) | (go_at_call 34; (with_reducible refine (catchpitref02_blank.calls (bt a0 0) true _ ?side1 A7.out).mono ?_); (case side1 => first | exact hG | exact TabOk.drewN hG _ | exact TabOk.drewN (TabOk.drewN hG _) _ | exact TabOk.below hG (by repeat (first | (with_reducible first | exact HB.out | apply below_alloc | apply pw_below_drewN | apply below_drew1) | exact HB.out))); rintro e w' ⟨rfl, ⟨nd, rfl⟩⟩))
          go_ret
          exact ⟨by first | rfl | (simp; done) | (simp [*]; done), by repeat (first | exact Drawn0.refl _ | apply Drawn0.step)⟩
        · replace c8 := Bool.eq_false_iff.mpr c8
          subst c8
          have H1 : (if 0 ≤ (wrap64 ((a0.size : Int) - 1)) then (if (wrap64 ((a0.size : Int) - 1)) < (a0.size : Int) then ((catchpitref02_blank.f (bt a0 (wrap64 ((a0.size : Int) - 1)))).bind fun t110 => (some (!t110))) else (none)) else (none)) = some r := by rw [if_neg (show ¬ (false = true) by decide)] at H; exact H
          clear H
          have H := H1
          clear H1
          obtain ⟨ji9, hji9⟩ : ∃ j_ : Int, (wrap64 ((a0.size : Int) - 1)) = j_ := ⟨_, rfl⟩
          replace H : (if 0 ≤ (ji9) then (if (ji9) < (a0.size : Int) then ((catchpitref02_blank.f (bt a0 (ji9))).bind fun t110 => (some (!t110))) else (none)) else (none)) = some r := by first | (rw [hji9] at H; exact H) | (simp only [hji9] at H ⊢; exact H)
          (try rw [hji9] at A2)
          (try rw [hji9] at A7)
          have hji9w : (IntKind.i64.wrap ((a0.size : Int) - 1)) = ji9 := (i64_w _).trans hji9
          by_cases c10 : 0 ≤ (ji9)
          · rw [if_pos c10] at H
            have c10b0 : decide (0 ≤ (ji9)) = true := decide_eq_true c10
            clear c10
            by_cases c11 : (ji9) < (a0.size : Int)
            · rw [if_pos c11] at H
              have c11b0 : decide ((ji9) < (a0.size : Int)) = true := decide_eq_true c11
              clear c11
              replace H := Option.bind_eq_some_iff.mp H
              obtain ⟨t110, A130, H⟩ := H
              replace H : (some (!t110)) = some r := H
              have A13 := Aside0.mk A130
              clear A130
              obtain rfl := Option.some.inj H
              go_enter Tryz.func21, Tryz.ntmps21
              go_wp2_with (first | ((with_reducible refine gate_callee (f := 33) rfl ?_); refine goesL_ (some 4) rfl rfl Tryz.func33 (by kernel_rfl) rfl #[.string a0] rfl (by (try simp only [List.map_toArray, List.map_cons, List.map_nil]); first | done | rfl | (simp only [List.length_drop, List.length_take]; rfl)) ?_; (with_reducible refine (catchpitref02_Text.calls k a0 true _ ?side1 A2.out).mono ?_); (case side1 => first | exact hG | exact TabOk.drewN hG _ | exact TabOk.drewN (TabOk.drewN hG _) _ | exact TabOk.below hG (by repeat (first | (with_reducible first | exact HB.out | apply below_alloc | apply pw_below_drewN | apply below_drew1) | exact HB.out))); rintro e w' ⟨rfl, ⟨nd, rfl⟩⟩; refine ⟨_, rfl, ?_⟩; have p6 : 0 ≤ (0 : Int) := (by omega); have q6 : 0 < a0.size := (by have : (0 : Int) < (a0.size : Int) := of_decide_eq_true (by first | (with_reducible assumption) | assumption); omega); have hx6 : ∀ h : 0 < a0.size, ((a0[0]'h).toNat : Int) = bt a0 0 := bt_at a0 0; clear p6; have qi6 : (0 < (a0.size : Int)) = True := eq_true (of_decide_eq_true (by first | (with_reducible assumption) | assumption)); replace q6 := eq_true q6) | (go_at_call 34; (with_reducible refine (catchpitref02_blank.calls (bt a0 0) false _ ?side1 A7.out).mono ?_); (case side1 => first | exact hG | exact TabOk.drewN hG _ | exact TabOk.drewN (TabOk.drewN hG _) _ | exact TabOk.below hG (by repeat (first | (with_reducible first | exact HB.out | apply below_alloc | apply pw_below_drewN | apply below_drew1) | exact HB.out))); rintro e w' ⟨rfl, ⟨nd, rfl⟩⟩; have p12 : 0 ≤ ((ji9) : Int) := of_decide_eq_true (by first | (with_reducible assumption) | assumption); have q12 : (ji9) < (a0.size : Int) := of_decide_eq_true (by first | (with_reducible assumption) | assumption); have hx12 := bt_at a0 (ji9); replace p12 := eq_true p12; replace q12 := eq_true q12) | (go_at_call 34; (with_reducible refine (catchpitref02_blank.calls (bt a0 (ji9)) t110 _ ?side1 A13.out).mono ?_); (case side1 => first | exact hG | exact TabOk.drewN hG _ | exact TabOk.drewN (TabOk.drewN hG _) _ | exact TabOk.below hG (by repeat (first | (with_reducible first | exact HB.out | apply below_alloc | apply pw_below_drewN | apply below_drew1) | exact HB.out))); rintro e w' ⟨rfl, ⟨nd, rfl⟩⟩))
              go_ret
              exact ⟨by first | rfl | (simp; done) | (simp only [← hji9] <;> (first | rfl | simp)) | (simp [*]; done), by repeat (first | exact Drawn0.refl _ | apply Drawn0.step)⟩
            · rw [if_neg c11] at H
              exact absurd H (by simp)
          · rw [if_neg c10] at H
            exact absurd H (by simp)
      · rw [if_neg c5] at H
        exact absurd H (by simp)
  · replace c3 := Bool.eq_false_iff.mpr c3
    subst c3
    have H1 : (some false) = some r := by rw [if_neg (show ¬ (false = true) by decide)] at H; exact H
    clear H
    have H := H1
    clear H1
    obtain rfl := Option.some.inj H
    go_enter Tryz.func21, Tryz.ntmps21
    go_wp2_with (first | ((with_reducible refine gate_callee (f := 33) rfl ?_); refine goesL_ (some 4) rfl rfl Tryz.func33 (by kernel_rfl) rfl #[.string a0] rfl (by (try simp only [List.map_toArray, List.map_cons, List.map_nil]); first | done | rfl | (simp only [List.length_drop, List.length_take]; rfl)) ?_; (with_reducible refine (catchpitref02_Text.calls k a0 false _ ?side1 A2.out).mono ?_); (case side1 => first | exact hG | exact TabOk.drewN hG _ | exact TabOk.drewN (TabOk.drewN hG _) _ | exact TabOk.below hG (by repeat (first | (with_reducible first | exact HB.out | apply below_alloc | apply pw_below_drewN | apply below_drew1) | exact HB.out))); rintro e w' ⟨rfl, ⟨nd, rfl⟩⟩; refine ⟨_, rfl, ?_⟩))
    go_ret
    exact ⟨by first | rfl | (simp; done) | (simp [*]; done), by repeat (first | exact Drawn0.refl _ | apply Drawn0.step)⟩
end Go.Proofs.YtmmbpbgcobmifaaGreatDoor.Pr
end
section
namespace Go.Proofs.YtmmbpbgcobmifaaGreatDoor.Pr
end Go.Proofs.YtmmbpbgcobmifaaGreatDoor.Pr
namespace Go.Proofs.YtmmbpbgcobmifaaGreatDoorH
open Go.RowKit Go.Proofs.YtmmbpbgcobmifaaGreatDoorW.PrintWords Go.Proofs.YtmmbpbgcobmifaaGreatDoorW.PrintLast Go.Proofs.YtmmbpbgcobmifaaGreatDoorW.PrintMore Go.Proofs.YtmmbpbgcobmifaaGreatDoor.Pr
theorem ref02_byte (c : Int) (h0 : 0 ≤ c) (h1 : c ≤ 255) : catchpitref02_Byte.f c = some (textI c) := by
  obtain ⟨n, rfl⟩ := Int.eq_ofNat_of_zero_le h0
  have : ∀ n : Fin 256, catchpitref02_Byte.f (n.val : Int) = some (textI (n.val : Int)) := by decide +kernel
  exact this ⟨n, by omega⟩
theorem ref02_Text_l0 (s : ByteArray) (hs : s.size ≤ 140737488355328) (d : Nat) : ∀ (k i : Nat), i ≤ s.size → s.size - i = d → d < k →
    catchpitref02_Text.l0 k s (i : Int) = some (allFrom textI s i) := by
  induction d with
  | zero =>
    intro k i h1 hd hk
    obtain ⟨k, rfl⟩ : ∃ m, k = m + 1 := ⟨k - 1, by omega⟩
    simp only [catchpitref02_Text.l0]
    rw [if_neg (by omega), allFrom_end _ _ _ (by omega)]
  | succ d ih =>
    intro k i h1 hd hk
    obtain ⟨k, rfl⟩ : ∃ m, k = m + 1 := ⟨k - 1, by omega⟩
    have hb := bt_range s i
    rw [catchpitref02_Text.l0, if_pos (by omega), if_pos (by omega), ref02_byte _ hb.1 hb.2, Option.bind_some, allFrom_step textI s i (by omega)]
    cases hp : textI (bt s i) with
    | true =>
      rw [if_pos rfl, wrap_up (by omega) (show (i : Int) < (s.size : Int) by omega) hs, Bool.true_and]
      exact ih k (i + 1) (by omega) (by omega) (by omega)
    | false => rfl
theorem ref02_Text (s : ByteArray) (hs : s.size ≤ 140737488355328) : Ev (fun k => catchpitref02_Text.f k s) (allB textI s) := by
  refine ⟨s.size + 1, fun k hk => ?_⟩
  show catchpitref02_Text.l0 k s 0 = _
  have := ref02_Text_l0 s hs s.size k 0 (by omega) (by omega) (by omega)
  rw [show ((0 : Nat) : Int) = 0 from rfl] at this
  rw [this, allFrom_zero]
theorem ref02_Value (s : ByteArray) (hs : s.size ≤ 140737488355328) : Ev (fun k => catchpitref02_Value.f k s) (allB textI s && (decide (trimS s = s))) := by
  obtain ⟨K, hK⟩ := ref02_Text s hs
  refine ⟨K, fun k hk => ?_⟩
  show catchpitref02_Value.f k s = _
  have hk' := hK k hk
  simp only at hk'
  rw [catchpitref02_Value.f, hk', Option.bind_some]
  cases ht : allB textI s with
  | false => rfl
  | true =>
    rw [if_pos rfl, Bool.true_and]
    by_cases h0 : s.size = 0
    · rw [if_pos (by omega)]
      have hl : s.data.toList = [] := by rw [size_eq_length] at h0; exact List.length_eq_zero_iff.1 h0
      congr 1
      symm
      rw [decide_eq_true_eq]
      apply bytes_ext
      rw [trimS_data, hl]; rfl
    · rw [if_neg (by omega), if_pos (by omega), ref02_blank, Option.bind_some]
      obtain ⟨c, t, hl, hb⟩ := first_of s (by omega)
      obtain ⟨t2, c2, hl2, hb2⟩ := last_of s (by omega)
      have hE : (trimS s = s) ↔ trimL s.data.toList = s.data.toList := ⟨fun h => by rw [← trimS_data, h], fun h => bytes_ext (by rw [trimS_data, h])⟩
      rw [hb, blankU_int]
      cases hp : blankU c with
      | true =>
        rw [if_pos rfl]
        congr 1
        symm
        rw [decide_eq_false_iff_not, hE]
        intro h
        rw [trimL_eq', hl, List.dropWhile_cons_of_pos hp] at h
        have h1 := rtrim_length blankU (t.dropWhile blankU)
        have h2 := (List.dropWhile_sublist blankU (l := t)).length_le
        have h3 := congrArg List.length h
        simp at h3
        omega
      | false =>
        rw [if_neg (by simp), wrap_down (by omega) (by omega), if_pos (by omega), if_pos (by omega), ref02_blank, Option.bind_some, hb2, blankU_int]
        congr 1
        rw [Bool.eq_iff_iff, decide_eq_true_eq, hE]
        have hdw : s.data.toList.dropWhile blankU = s.data.toList := by rw [hl]; exact List.dropWhile_cons_of_neg (by simp [hp])
        rw [trimL_eq', hdw]
        constructor
        · intro h
          rw [hl2, rtrim_snoc, if_neg (by simpa using h)]
        · intro h
          cases hp2 : blankU c2 with
          | false => rfl
          | true =>
            rw [hl2, rtrim_snoc, if_pos hp2] at h
            have h1 := rtrim_length blankU t2
            have h3 := congrArg List.length h
            simp at h3
            omega
end Go.Proofs.YtmmbpbgcobmifaaGreatDoorH
end
section
namespace Go.Proofs.YtmmbpbgcobmifaaGreatDoor.Pr
open Go.RowKit Go.Proofs.YtmmbpbgcobmifaaGreatDoorH Go.Proofs.YtmmbpbgcobmifaaGreatDoorW.PrintWords Go.Proofs.YtmmbpbgcobmifaaGreatDoorW.PrintLast Go.Proofs.YtmmbpbgcobmifaaGreatDoorW.PrintMore
attribute [local go_sem] max2_int min2_int max_two min_two max_three min_three max_four min_four   -- for this text's walks alone
set_option linter.unusedVariables false
set_option linter.unusedSimpArgs false
def octet_Value.f (a0 : ByteArray) : Option (Bool) := (octet_Text.f a0).bind fun t129 => (if t129 = true then ((octet_Trim.f a0).bind fun t130 => (some (t130.toList == a0.toList))) else (some false))
set_option maxHeartbeats 8000000 in
set_option maxRecDepth 100000 in
theorem octet_Value.calls (a0 : ByteArray) (r : Bool) (w : World) (hG : TabOk w) (h : octet_Value.f a0 = some r) :
    Calls Tryz.prog 95 #[.string a0] w fun e w' => e = .returned (.bool r) ∧ Below w.heap.size w w' := by
  have HB := Aside0.mk (Below.refl w.heap.size w)
  have H : ((octet_Text.f a0).bind fun t129 => (if t129 = true then ((octet_Trim.f a0).bind fun t130 => (some (t130.toList == a0.toList))) else (some false))) = some r := h
  clear h
  replace H := Option.bind_eq_some_iff.mp H
  obtain ⟨t129, A20, H⟩ := H
  replace H : (if t129 = true then ((octet_Trim.f a0).bind fun t130 => (some (t130.toList == a0.toList))) else (some false)) = some r := H
  have A2 := Aside0.mk A20
  clear A20
  by_cases c3 : t129 = true
  · subst c3
    have H1 : ((octet_Trim.f a0).bind fun t130 => (some (t130.toList == a0.toList))) = some r := by rw [if_pos rfl] at H; exact H
    clear H
    have H := H1
    clear H1
    replace H := Option.bind_eq_some_iff.mp H
    obtain ⟨t130, A40, H⟩ := H
    replace H : (some (t130.toList == a0.toList)) = some r := H
    have A4 := Aside0.mk A40
    clear A40
    obtain rfl := Option.some.inj H
    go_enter Tryz.func95, Tryz.ntmps95
    go_wp2_with (first | ((with_reducible refine gate_callee (f := 60) rfl ?_); refine goesL_ (some 4) rfl rfl Tryz.func60 (by kernel_rfl) rfl #[.string a0] rfl (by (try simp only [List.map_toArray, List.map_cons, List.map_nil]); first | done | rfl | (simp only [List.length_drop, List.length_take]; rfl)) ?_; (with_reducible refine (octet_Text.calls a0 true _ ?side1 A2.out).mono ?_); (case side1 => first | exact hG | exact TabOk.drewN hG _ | exact TabOk.drewN (TabOk.drewN hG _) _ | exact TabOk.below hG (by repeat (first | (with_reducible first | exact HB.out | apply below_alloc | apply pw_below_drewN | apply below_drew1) | exact HB.out))); rintro e w5 ⟨rfl, hb⟩; refine ⟨_, rfl, ?_⟩; have n0_ := Aside0.mk (below_step (by repeat (first | (with_reducible first | exact HB.out | apply below_alloc | apply pw_below_drewN | apply below_drew1) | exact HB.out)) hb); clear HB; have HB := n0_; clear n0_; (try clear hb); (try clear hb2); (try clear hk); (try clear hi)) | (go_at_call 79; (with_reducible refine (octet_Trim.calls a0 t130 _ ?side1 A4.out).mono ?_); (case side1 => first | exact hG | exact TabOk.drewN hG _ | exact TabOk.drewN (TabOk.drewN hG _) _ | exact TabOk.below hG (by repeat (first | (with_reducible first | exact HB.out | apply below_alloc | apply pw_below_drewN | apply below_drew1) | exact HB.out))); rintro e w6 ⟨rfl, hb⟩; have n0_ := Aside0.mk (below_step (by repeat (first | (with_reducible first | exact HB.out | apply below_alloc | apply pw_below_drewN | apply below_drew1) | exact HB.out)) hb); clear HB; have HB := n0_; clear n0_; (try clear hb); (try clear hb2); (try clear hk); (try clear hi)))
    go_ret
    exact ⟨by first | rfl | (simp [errW_none, errW_some] <;> rfl) | (simp [*, errW_none, errW_some] <;> rfl), by repeat (first | (with_reducible first | exact HB.out | apply below_alloc | apply pw_below_drewN | apply below_drew1) | exact HB.out)⟩
  · replace c3 := Bool.eq_false_iff.mpr c3
    subst c3
    have H1 : (some false) = some r := by rw [if_neg (show ¬ (false = true) by decide)] at H; exact H
    clear H
    have H := H1
    clear H1
    obtain rfl := Option.some.inj H
    go_enter Tryz.func95, Tryz.ntmps95
    go_wp2_with (first | ((with_reducible refine gate_callee (f := 60) rfl ?_); refine goesL_ (some 4) rfl rfl Tryz.func60 (by kernel_rfl) rfl #[.string a0] rfl (by (try simp only [List.map_toArray, List.map_cons, List.map_nil]); first | done | rfl | (simp only [List.length_drop, List.length_take]; rfl)) ?_; (with_reducible refine (octet_Text.calls a0 false _ ?side1 A2.out).mono ?_); (case side1 => first | exact hG | exact TabOk.drewN hG _ | exact TabOk.drewN (TabOk.drewN hG _) _ | exact TabOk.below hG (by repeat (first | (with_reducible first | exact HB.out | apply below_alloc | apply pw_below_drewN | apply below_drew1) | exact HB.out))); rintro e w7 ⟨rfl, hb⟩; refine ⟨_, rfl, ?_⟩; have n0_ := Aside0.mk (below_step (by repeat (first | (with_reducible first | exact HB.out | apply below_alloc | apply pw_below_drewN | apply below_drew1) | exact HB.out)) hb); clear HB; have HB := n0_; clear n0_; (try clear hb); (try clear hb2); (try clear hk); (try clear hi)))
    go_ret
    exact ⟨by first | rfl | (simp [errW_none, errW_some] <;> rfl) | (simp [*, errW_none, errW_some] <;> rfl), by repeat (first | (with_reducible first | exact HB.out | apply below_alloc | apply pw_below_drewN | apply below_drew1) | exact HB.out)⟩
end Go.Proofs.YtmmbpbgcobmifaaGreatDoor.Pr
end
