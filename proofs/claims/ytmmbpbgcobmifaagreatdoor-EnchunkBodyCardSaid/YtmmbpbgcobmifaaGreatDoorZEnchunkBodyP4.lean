import Derived.Test.YtmmbpbgcobmifaaGreatDoorZEnchunkBodyP3
import Derived.Test.YtmmbpbgcobmifaaGreatDoorZEnchunkBodyP1
import Derived.Tactics2
import Derived.Defers
import Derived.Recover
import Derived.RangeFuncNested
import Derived.RangeFuncBound
import Derived.RangeFuncCalls
import Derived.RangeFuncLeaves
import Derived.RangeFuncKeeps
import Derived.Shelf.RegionOpen
import Derived.WalkKit
import Derived.OwnWalkIn
import Derived.TacticsInMore
import Derived.LoopNIn
import Derived.LoopIn
import Derived.Lib.BytesEntry
import Derived.Lib.Walk
import Derived.ControlIn
import Derived.Scope
import Derived.WalkMore
namespace Go.Proofs.YtmmbpbgcobmifaaGreatDoorW.PrintWords
end Go.Proofs.YtmmbpbgcobmifaaGreatDoorW.PrintWords
namespace Go.Proofs.YtmmbpbgcobmifaaGreatDoorW.PrintLast
end Go.Proofs.YtmmbpbgcobmifaaGreatDoorW.PrintLast
namespace Go.Proofs.YtmmbpbgcobmifaaGreatDoorW.PrintMore
end Go.Proofs.YtmmbpbgcobmifaaGreatDoorW.PrintMore
namespace Go.Proofs.YtmmbpbgcobmifaaGreatDoor.Pr
end Go.Proofs.YtmmbpbgcobmifaaGreatDoor.Pr
namespace Go.Proofs.YtmmbpbgcobmifaaGreatDoorM
end Go.Proofs.YtmmbpbgcobmifaaGreatDoorM
section
namespace Go.Proofs.YtmmbpbgcobmifaaGreatDoorH
set_option linter.unusedVariables false
set_option linter.unusedSimpArgs false
open Go Go.RowKit Go.Proofs.YtmmbpbgcobmifaaGreatDoorW.PrintWords Go.Proofs.YtmmbpbgcobmifaaGreatDoorW.PrintLast Go.Proofs.YtmmbpbgcobmifaaGreatDoorW.PrintMore
def zeroBody : Array Value := #[.slice none 0 0, .slice none 0 0, .int .i64 0]
set_option maxHeartbeats 1600000 in
set_option maxRecDepth 100000 in
theorem catch_idle (p q : Addr) (w : World) :
    CallsD Tryz.prog 37 #[.pointer (some p), .pointer (some q)] .returning w fun e u' w' => e = .returned (.tuple #[]) ∧ u' = .returning ∧ w' = w := by
  refine callsD_of_wpS Tryz.func37 rfl fun c₀ cs hu => ?_
  apply wpS_seq
  apply wpS_region
  simp [wpOpsS, go_sem, recoverD, hu, Tryz.ntmps37, Exit.thenS]
  apply wpS_seq
  apply wpS_region
  simp [wpOpsS, go_sem, recoverD, hu, Tryz.ntmps37, Exit.thenS]
  refine wpS_cond (t := false) (by simp [Act.eval, Array.replicate]) ?_
  simp only [Bool.false_eq_true, if_false]
  refine wpS_of_wp (wp_skip ?_)
  cases c₀
  simp_all [bodyPostS, results]
theorem setB (bB : Nat) (v0 v1 v2 : Value) (w : World) (hB : w.heap[bB]? = some (.cells #[v0, v1, v2] 42 (0, 0))) :
    ∃ W, ((w.setCell ⟨bB, 0, none⟩ (.slice none 0 0)).setCell ⟨bB, 1, none⟩ (.slice none 0 0)).setCell ⟨bB, 2, none⟩ (.int .i64 0) = W ∧
      W.heap[bB]? = some (.cells zeroBody 42 (0, 0)) ∧ Below bB w W ∧ (∀ k, ¬ k = bB → W.heap[k]? = w.heap[k]?) := by
  have h1 := blk_set hB 0 (.slice none 0 0)
  have h2 := blk_set h1 1 (.slice none 0 0)
  have h3 := blk_set h2 2 (.int .i64 0)
  refine ⟨_, rfl, h3, ?_, ?_⟩
  · exact (((Below.refl _ _).setCell (p := ⟨bB, 0, none⟩) (Nat.le_refl _) _).setCell (p := ⟨bB, 1, none⟩) (Nat.le_refl _) _).setCell (p := ⟨bB, 2, none⟩) (Nat.le_refl _) _
  · intro k h
    rw [Below.heap_setCell _ ⟨bB, 2, none⟩ _ k h, Below.heap_setCell _ ⟨bB, 1, none⟩ _ k h, Below.heap_setCell _ ⟨bB, 0, none⟩ _ k h]
theorem setE (bE : Nat) (u0 u1 : Value) (a er : Int) (w : World) (hE : w.heap[bE]? = some (.cells #[u0, u1] 74 (0, 0))) :
    ∃ W, (w.setCell ⟨bE, 0, none⟩ (.int .i64 a)).setCell ⟨bE, 1, none⟩ (.int .i64 er) = W ∧
      W.heap[bE]? = some (.cells #[.int .i64 a, .int .i64 er] 74 (0, 0)) ∧ Below bE w W ∧ (∀ k, ¬ k = bE → W.heap[k]? = w.heap[k]?) := by
  have h1 := blk_set hE 0 (.int .i64 a)
  have h2 := blk_set h1 1 (.int .i64 er)
  refine ⟨_, rfl, h2, ?_, ?_⟩
  · exact ((Below.refl _ _).setCell (p := ⟨bE, 0, none⟩) (Nat.le_refl _) _).setCell (p := ⟨bE, 1, none⟩) (Nat.le_refl _) _
  · intro k h
    rw [Below.heap_setCell _ ⟨bE, 1, none⟩ _ k h, Below.heap_setCell _ ⟨bE, 0, none⟩ _ k h]
set_option maxHeartbeats 1600000 in
set_option maxRecDepth 100000 in
theorem catch_panicking (bB bE : Nat) (hne : bB ≠ bE) (v0 v1 v2 u0 u1 : Value) (a er : Int) (older : List PanicEntry) (w : World)
    (hB : w.heap[bB]? = some (.cells #[v0, v1, v2] 42 (0, 0))) (hE : w.heap[bE]? = some (.cells #[u0, u1] 74 (0, 0))) :
    CallsD Tryz.prog 37 #[.pointer (some ⟨bB, 0, none⟩), .pointer (some ⟨bE, 0, none⟩)] (.panicking ({ v := .iface 74 (.agg #[.int .i64 a, .int .i64 er]), recovered := false } :: older)) w fun e u' w' =>
      e = .returned (.tuple #[]) ∧ u' = .panicking ({ v := .iface 74 (.agg #[.int .i64 a, .int .i64 er]), recovered := true } :: older) ∧
      w'.heap[bB]? = some (.cells zeroBody 42 (0, 0)) ∧ w'.heap[bE]? = some (.cells #[.int .i64 a, .int .i64 er] 74 (0, 0)) ∧ Below (min bB bE) w w' ∧ (∀ k, k ≠ bB → k ≠ bE → w'.heap[k]? = w.heap[k]?) := by
  have hta : ∀ W : World, (Instr.typeAssert (.iface 74 (.agg #[.int .i64 a, .int .i64 er])) 20 74 false).run Tryz.prog W = .ok (.agg #[.int .i64 a, .int .i64 er]) W := fun _ => by kernel_rfl
  have k0 : w.cell? ⟨bB, 0, none⟩ = some v0 := (blk_cell hB 0).trans rfl
  have k1 : w.cell? ⟨bB, 1, none⟩ = some v1 := (blk_cell hB 1).trans rfl
  have k2 : w.cell? ⟨bB, 2, none⟩ = some v2 := (blk_cell hB 2).trans rfl
  have l0 : w.cell? ⟨bE, 0, none⟩ = some u0 := (blk_cell hE 0).trans rfl
  have l1 : w.cell? ⟨bE, 1, none⟩ = some u1 := (blk_cell hE 1).trans rfl
  have fz : w.frozen? ⟨bB, 0, none⟩ = false := blk_frozen hB 0
  have fz1 : w.frozen? ⟨bB, 1, none⟩ = false := blk_frozen hB 1
  have fz2 : w.frozen? ⟨bB, 2, none⟩ = false := blk_frozen hB 2
  have fy1 : w.frozen? ⟨bE, 1, none⟩ = false := blk_frozen hE 1
  have fy : w.frozen? ⟨bE, 0, none⟩ = false := blk_frozen hE 0
  obtain ⟨W1, q1, f1, b1, o1⟩ := setB bB v0 v1 v2 w hB
  obtain ⟨W2, q2, f2, b2, o2⟩ := setE bE u0 u1 a er W1 ((o1 bE (fun e => hne e.symm)).trans hE)
  obtain ⟨W3, q3, f3, b3, o3⟩ := setE bE u0 u1 a er w hE
  obtain ⟨W4, q4, f4, b4, o4⟩ := setB bB v0 v1 v2 W3 ((o3 bB hne).trans hB)
  have Q1 := Aside0.mk q1
  have Q2 := Aside0.mk q2
  have Q3 := Aside0.mk q3
  have Q4 := Aside0.mk q4
  have HF2 := Aside0.mk (show W2.drew.heap[bB]? = some (.cells zeroBody 42 (0, 0)) ∧ W2.drew.heap[bE]? = some (.cells #[.int .i64 a, .int .i64 er] 74 (0, 0)) ∧ Below (min bB bE) w W2.drew ∧ (∀ k, ¬ k = bB → ¬ k = bE → W2.drew.heap[k]? = w.heap[k]?) from
    ⟨(o2 bB hne).trans f1, f2, below_drew ((b1.mono (Nat.min_le_left _ _)).trans (b2.mono (Nat.min_le_right _ _))), fun k h1 h2 => (o2 k h2).trans (o1 k h1)⟩)
  have HF4 := Aside0.mk (show W4.drew.heap[bB]? = some (.cells zeroBody 42 (0, 0)) ∧ W4.drew.heap[bE]? = some (.cells #[.int .i64 a, .int .i64 er] 74 (0, 0)) ∧ Below (min bB bE) w W4.drew ∧ (∀ k, ¬ k = bB → ¬ k = bE → W4.drew.heap[k]? = w.heap[k]?) from
    ⟨f4, (o4 bE (fun e => hne e.symm)).trans f3, below_drew ((b3.mono (Nat.min_le_right _ _)).trans (b4.mono (Nat.min_le_left _ _))), fun k h1 h2 => (o4 k h1).trans (o3 k h2)⟩)
  clear q1 q2 q3 q4 f1 f2 f3 f4 b1 b2 b3 b4 o1 o2 o3 o4
  refine callsD_of_wpS Tryz.func37 rfl fun c₀ cs hu => ?_
  apply wpS_seq
  apply wpS_region
  simp [wpOpsS, go_sem, recoverD, hu, Tryz.ntmps37, Exit.thenS]
  apply wpS_seq
  apply wpS_region
  simp [wpOpsS, go_sem, recoverD, hu, Tryz.ntmps37, Exit.thenS]
  refine wpS_cond (t := true) (by simp [Act.eval, Array.replicate]) ?_
  simp only [if_true]
  refine wpS_of_wp ?_
  simp only [List.size_toArray, List.length_cons, List.length_nil, Nat.reduceAdd, Nat.reduceSub, Array.replicate_succ, Array.replicate_zero, List.push_toArray, List.append_toArray, List.nil_append, List.cons_append, List.setIfInBounds_toArray, List.set_cons_zero, List.set_cons_succ]
  go_region_held3 (fun _ => True) (trivial) (fail)
  all_goals
    cases c₀
    first
      | (rw [Q1.out, Q2.out]; simp [bodyPostS, results]; exact HF2.out)
      | (rw [Q3.out, Q4.out]; simp [bodyPostS, results]; exact HF4.out)
end Go.Proofs.YtmmbpbgcobmifaaGreatDoorH
end
section
namespace Go.Proofs.YtmmbpbgcobmifaaGreatDoorH
open Go Go.RowKit Go.Proofs.YtmmbpbgcobmifaaGreatDoorW.PrintWords Go.Proofs.YtmmbpbgcobmifaaGreatDoorW.PrintLast Go.Proofs.YtmmbpbgcobmifaaGreatDoorW.PrintMore
theorem sizeL_gt {s : List Int} : ∀ (f a n g : Nat) {m a1 : Nat}, sizeL f s a n g = .ok (m, a1) → a ≤ a1 ∧ (g = 0 → a < a1)
  | 0, a, n, g, m, a1, h => by cases h
  | f + 1, a, n, g, m, a1, h => by
    unfold sizeL at h
    split at h
    · split at h
      · split at h
        · cases h
          exact ⟨Nat.le_refl _, by omega⟩
        · cases h
      · split at h
        · have := sizeL_gt f _ _ _ h
          exact ⟨by omega, by omega⟩
        · cases h
    · cases h
theorem extL_ge {s : List Int} {e0 : Int} : ∀ (f a n : Nat) {u : Unit} {a1 : Nat}, extL f s e0 a n = .ok (u, a1) → a ≤ a1
  | 0, a, n, u, a1, h => by cases h; exact Nat.le_refl _
  | f + 1, a, n, u, a1, h => by
    unfold extL at h
    split at h
    · split at h
      · split at h
        · have := extL_ge f _ _ h
          omega
        · cases h
      · cases h
        exact Nat.le_refl _
    · cases h
theorem extM_ge {s : List Int} {e0 : Int} {a : Nat} {u : Unit} {a1 : Nat} (h : extM s e0 a = .ok (u, a1)) : a ≤ a1 := by
  unfold extM at h
  split at h
  · split at h
    · exact extL_ge _ _ _ h
    · cases h
      exact Nat.le_refl _
  · cases h
theorem byteM_ge {s : List Int} {c : Int} {a : Nat} {u : Unit} {a1 : Nat} (h : byteM s c a = .ok (u, a1)) : a1 = a + 1 := by
  unfold byteM at h
  split at h
  · split at h
    · cases h
      rfl
    · cases h
  · cases h
theorem endM_ge {s : List Int} {a : Nat} {u : Unit} {a1 : Nat} (h : endM s a = .ok (u, a1)) : a1 = a + 2 := by
  unfold endM at h
  split at h
  · rename_i h1
    have := byteM_ge h1
    have := byteM_ge h
    omega
  · cases h
theorem chunkM_gt {s : List Int} (hs : ByteL s) {e0 : Int} {a : Nat} (ha : a ≤ s.length) {x : Bool} {a1 : Nat} (h : (chunkM s e0 a).1 = .ok (x, a1)) : a < a1 ∧ a1 ≤ s.length := by
  unfold chunkM at h
  split at h
  · cases h
  rename_i h1
  have g1 := (sizeL_gt _ _ _ _ h1).2 rfl
  have l1 := sizeM_le hs h1 ha
  split at h
  · cases h
  rename_i h2
  have g2 := extM_ge h2
  have l2 := extM_le h2 l1.1
  split at h
  · cases h
  rename_i h3
  have g3 := endM_ge h3
  have l3 := endM_le h3
  split at h
  · cases h
    omega
  split at h
  · unfold tailM at h
    split at h
    · cases h
    · rename_i h4
      have g4 := endM_ge h4
      have l4 := endM_le h4
      cases h
      omega
  · cases h
def chunksM : Nat → List Int → Int → Nat → List Int → RM Unit × List Int
  | 0, _, _, a, D => (.error (a, 4), D)
  | f + 1, s, e0, a, D =>
    match chunkM s e0 a with
    | (.error x, d) => (.error x, D ++ d)
    | (.ok (true, a1), d) => chunksM f s e0 a1 (D ++ d)
    | (.ok (false, a1), d) => (.ok ((), a1), D ++ d)
theorem chunkM_data {s : List Int} {e0 : Int} {a : Nat} {x : Bool} {a1 : Nat} (h : (chunkM s e0 a).1 = .ok (x, a1)) : (chunkM s e0 a).2.length + a ≤ a1 := by
  have hl : ∀ (i j : Nat), ((s.take i).drop j).length ≤ i - j := fun i j => by rw [List.length_drop, List.length_take]; omega
  unfold chunkM at h ⊢
  cases h1 : sizeM s a with
  | error y => rw [h1] at h; cases h
  | ok y =>
    obtain ⟨n, b1⟩ := y
    have g1 := (sizeL_gt _ _ _ _ h1).2 rfl
    simp only [h1] at h ⊢
    cases h2 : extM s e0 b1 with
    | error y => rw [h2] at h; cases h
    | ok y =>
      obtain ⟨u, b2⟩ := y
      have g2 := extM_ge h2
      simp only [h2] at h ⊢
      cases h3 : endM s b2 with
      | error y => rw [h3] at h; cases h
      | ok y =>
        obtain ⟨u, b3⟩ := y
        have g3 := endM_ge h3
        simp only [h3] at h ⊢
        by_cases h0 : n = 0
        · rw [if_pos h0] at h ⊢
          cases h
          show 0 + a ≤ _
          omega
        · rw [if_neg h0] at h ⊢
          by_cases hle : n ≤ s.length - b3
          · rw [if_pos hle] at h ⊢
            unfold tailM at h ⊢
            cases h4 : endM s (b3 + n) with
            | error y => rw [h4] at h; cases h
            | ok y =>
              obtain ⟨u, b4⟩ := y
              have g4 := endM_ge h4
              simp only [h4] at h ⊢
              cases h
              have := hl (b3 + n) b3
              omega
          · rw [if_neg hle] at h
            cases h
def atOf (b : Nat) (W : World) : Nat := match W.cell? ⟨b, 4, none⟩ with
  | some v => (intOf v).toNat
  | none => 0
theorem AtR.atOf {w W : World} {B b : Nat} {A : Option Addr} {n c : Nat} {e0 e1 e2 : Int} {a : Nat} {dv : Value} {D : List Int} (h : AtR w W B b A n c e0 e1 e2 a dv D) : atOf b W = a := by
  unfold Proofs.YtmmbpbgcobmifaaGreatDoorH.atOf
  rw [h.i.c4]
  simp [intOf]
theorem AtR.leave {w w0 w2 w3 : World} {B b : Nat} {A : Option Addr} {n c : Nat} {e0 e1 e2 : Int} {a : Nat} {dv : Value} {D : List Int} {cs1 cs2 : Array Value} {t1 t2 : TypeId} (hA : AtR w0 w2 B b A n c e0 e1 e2 a dv D) (hb0 : Below w.heap.size w w0) (hBw : B ≤ w.heap.size) (hlt : b < w.heap.size)
    (h1 : w2.heap[w.heap.size]? = some (.cells cs1 t1 (0, 0))) (h2 : w2.heap[w.heap.size + 1]? = some (.cells cs2 t2 (0, 0))) (ht1 : t1 ≠ 5) (ht2 : t2 ≠ 5)
    (hb : Below (min w.heap.size (w.heap.size + 1)) w2 w3) (ho : ∀ k, ¬ k = w.heap.size → ¬ k = w.heap.size + 1 → w3.heap[k]? = w2.heap[k]?) : AtR w w3 B b A n c e0 e1 e2 a dv D := by
  refine ⟨(ho b (by omega) (by omega)).trans hA.i, hA.r.move fun k hk => ?_, fun k cs t ht hk hc => ?_, ((hb0.mono hBw).trans hA.b).trans (hb.mono (by omega))⟩
  · obtain ⟨_, cs, hc⟩ := hA.r.at k hk
    refine ho k (fun e => ?_) (fun e => ?_)
    · subst e
      have := hc.symm.trans h1
      injection this with this
      injection this with _ h
      exact ht1 h.symm
    · subst e
      have := hc.symm.trans h2
      injection this with this
      injection this with _ h
      exact ht2 h.symm
  · have hk2 := blk_lt hc
    exact (ho k (by omega) (by omega)).trans (hA.f k cs t ht hk ((hb0.block k hk2).trans hc))
theorem results_rows2 {P : Program} {fn : Func} {p q : Tmp} {t1 t2 : TypeId} (h : fn.results = #[.cell p t1, .cell q t2]) (tmps : Array Value) (w : World) (g1 g2 : Nat) (cs1 cs2 : Array Value) (d1 d2 : TypeDesc)
    (hp : tmps.getD p undef = .pointer (some ⟨g1, 0, none⟩)) (hq : tmps.getD q undef = .pointer (some ⟨g2, 0, none⟩)) (h1 : w.heap[g1]? = some (.cells cs1 t1 (0, 0))) (h2 : w.heap[g2]? = some (.cells cs2 t2 (0, 0)))
    (hu1 : P.underlying t1 = some d1) (hd1 : (match d1 with | .struct _ | .array _ _ => true | _ => false) = true) (hi1 : (P.info? t1).map (·.size) = some cs1.size)
    (hu2 : P.underlying t2 = some d2) (hd2 : (match d2 with | .struct _ | .array _ _ => true | _ => false) = true) (hi2 : (P.info? t2).map (·.size) = some cs2.size) :
    (results fn tmps).run P w = .ok (.tuple #[.agg cs1, .agg cs2]) w := by
  have hp' : tmps[p]?.getD undef = .pointer (some ⟨g1, 0, none⟩) := by simpa using hp
  have hq' : tmps[q]?.getD undef = .pointer (some ⟨g2, 0, none⟩) := by simpa using hq
  simp [results, h, hp', hq', asAddr, run_loadVar_row w g1 t1 t1 cs1 (0, 0) d1 h1 hu1 hd1 hi1, run_loadVar_row w g2 t2 t2 cs2 (0, 0) d2 h2 hu2 hd2 hi2]
theorem farB {b bB : Nat} (h1 : ¬ b = bB) (w : World) (v0 v1 v2 x y : Value) (h4 : w.cell? ⟨b, 4, none⟩ = some x) (h5 : w.cell? ⟨b, 5, none⟩ = some y) :
    (((w.setCell ⟨bB, 0, none⟩ v0).setCell ⟨bB, 1, none⟩ v1).setCell ⟨bB, 2, none⟩ v2).drew.cell? ⟨b, 4, none⟩ = some x ∧
    (((w.setCell ⟨bB, 0, none⟩ v0).setCell ⟨bB, 1, none⟩ v1).setCell ⟨bB, 2, none⟩ v2).drew.cell? ⟨b, 5, none⟩ = some y := by
  have a1 : bB ≠ b := fun e => h1 e.symm
  have q : ∀ j : Nat, (((w.setCell ⟨bB, 0, none⟩ v0).setCell ⟨bB, 1, none⟩ v1).setCell ⟨bB, 2, none⟩ v2).cell? ⟨b, j, none⟩ = w.cell? ⟨b, j, none⟩ := fun j =>
    ((World.cell?_setCell_far _ ⟨bB, 2, none⟩ ⟨b, j, none⟩ v2 a1).trans (World.cell?_setCell_far _ ⟨bB, 1, none⟩ ⟨b, j, none⟩ v1 a1)).trans (World.cell?_setCell_far w ⟨bB, 0, none⟩ ⟨b, j, none⟩ v0 a1)
  exact ⟨(q 4).trans h4, (q 5).trans h5⟩
theorem farE {b bB bE : Nat} (h1 : ¬ b = bB) (h2 : ¬ b = bE) (w : World) (v0 v1 v2 u0 u1 x y : Value) (h4 : w.cell? ⟨b, 4, none⟩ = some x) (h5 : w.cell? ⟨b, 5, none⟩ = some y) :
    (((((w.setCell ⟨bB, 0, none⟩ v0).setCell ⟨bB, 1, none⟩ v1).setCell ⟨bB, 2, none⟩ v2).setCell ⟨bE, 0, none⟩ u0).setCell ⟨bE, 1, none⟩ u1).drew.cell? ⟨b, 4, none⟩ = some x ∧
    (((((w.setCell ⟨bB, 0, none⟩ v0).setCell ⟨bB, 1, none⟩ v1).setCell ⟨bB, 2, none⟩ v2).setCell ⟨bE, 0, none⟩ u0).setCell ⟨bE, 1, none⟩ u1).drew.cell? ⟨b, 5, none⟩ = some y := by
  have a2 : bE ≠ b := fun e => h2 e.symm
  have q := farB h1 w v0 v1 v2 x y h4 h5
  generalize ((w.setCell ⟨bB, 0, none⟩ v0).setCell ⟨bB, 1, none⟩ v1).setCell ⟨bB, 2, none⟩ v2 = W at *
  have r : ∀ j : Nat, ((W.setCell ⟨bE, 0, none⟩ u0).setCell ⟨bE, 1, none⟩ u1).cell? ⟨b, j, none⟩ = W.cell? ⟨b, j, none⟩ := fun j =>
    (World.cell?_setCell_far _ ⟨bE, 1, none⟩ ⟨b, j, none⟩ u1 a2).trans (World.cell?_setCell_far W ⟨bE, 0, none⟩ ⟨b, j, none⟩ u0 a2)
  exact ⟨(r 4).trans q.1, (r 5).trans q.2⟩
theorem setBE (bB bE : Nat) (hne : ¬ bB = bE) (x0 x1 x2 y0 y1 : Value) (w : World) (v0 v1 v2 u0 u1 : Value) (hB : w.heap[bB]? = some (.cells #[v0, v1, v2] 42 (0, 0))) (hE : w.heap[bE]? = some (.cells #[u0, u1] 74 (0, 0))) :
    (((((w.setCell ⟨bB, 0, none⟩ x0).setCell ⟨bB, 1, none⟩ x1).setCell ⟨bB, 2, none⟩ x2).setCell ⟨bE, 0, none⟩ y0).setCell ⟨bE, 1, none⟩ y1).drew.heap[bB]? = some (.cells #[x0, x1, x2] 42 (0, 0)) ∧
    (((((w.setCell ⟨bB, 0, none⟩ x0).setCell ⟨bB, 1, none⟩ x1).setCell ⟨bB, 2, none⟩ x2).setCell ⟨bE, 0, none⟩ y0).setCell ⟨bE, 1, none⟩ y1).drew.heap[bE]? = some (.cells #[y0, y1] 74 (0, 0)) ∧
    Below (min bB bE) w (((((w.setCell ⟨bB, 0, none⟩ x0).setCell ⟨bB, 1, none⟩ x1).setCell ⟨bB, 2, none⟩ x2).setCell ⟨bE, 0, none⟩ y0).setCell ⟨bE, 1, none⟩ y1).drew ∧
    (∀ k, ¬ k = bB → ¬ k = bE → (((((w.setCell ⟨bB, 0, none⟩ x0).setCell ⟨bB, 1, none⟩ x1).setCell ⟨bB, 2, none⟩ x2).setCell ⟨bE, 0, none⟩ y0).setCell ⟨bE, 1, none⟩ y1).drew.heap[k]? = w.heap[k]?) := by
  have h1 := blk_set hB 0 x0
  have h2 := blk_set h1 1 x1
  have h3 := blk_set h2 2 x2
  have o3 : ∀ k, ¬ k = bB → (((w.setCell ⟨bB, 0, none⟩ x0).setCell ⟨bB, 1, none⟩ x1).setCell ⟨bB, 2, none⟩ x2).heap[k]? = w.heap[k]? := fun k h => by
    rw [Below.heap_setCell _ ⟨bB, 2, none⟩ _ k h, Below.heap_setCell _ ⟨bB, 1, none⟩ _ k h, Below.heap_setCell _ ⟨bB, 0, none⟩ _ k h]
  have b3 : Below (min bB bE) w (((w.setCell ⟨bB, 0, none⟩ x0).setCell ⟨bB, 1, none⟩ x1).setCell ⟨bB, 2, none⟩ x2) :=
    (((Below.refl _ _).setCell (p := ⟨bB, 0, none⟩) (Nat.min_le_left _ _) _).setCell (p := ⟨bB, 1, none⟩) (Nat.min_le_left _ _) _).setCell (p := ⟨bB, 2, none⟩) (Nat.min_le_left _ _) _
  have hE3 := (o3 bE (fun e => hne e.symm)).trans hE
  generalize ((w.setCell ⟨bB, 0, none⟩ x0).setCell ⟨bB, 1, none⟩ x1).setCell ⟨bB, 2, none⟩ x2 = W at *
  have g1 := blk_set hE3 0 y0
  have g2 := blk_set g1 1 y1
  have o5 : ∀ k, ¬ k = bE → ((W.setCell ⟨bE, 0, none⟩ y0).setCell ⟨bE, 1, none⟩ y1).heap[k]? = W.heap[k]? := fun k h => by
    rw [Below.heap_setCell _ ⟨bE, 1, none⟩ _ k h, Below.heap_setCell _ ⟨bE, 0, none⟩ _ k h]
  refine ⟨(o5 bB hne).trans h3, g2, below_drew ((b3.setCell (p := ⟨bE, 0, none⟩) (Nat.min_le_right _ _) _).setCell (p := ⟨bE, 1, none⟩) (Nat.min_le_right _ _) _), fun k h1 h2 => (o5 k h2).trans (o3 k h1)⟩
def DoesS {α : Type} (w : World) (B b : Nat) (A : Option Addr) (n c : Nat) (e0 e1 e2 : Int) (RL : World → Value → α → Prop) (m : RM α) (D : List Int) (e : Ending) (w' : World) : Prop :=
  ∃ dv, match m with
  | .ok (l, a) => ∃ v, RL w' v l ∧ e = .returned (.tuple #[.agg #[dv, v, .int .i64 (a : Int)], .agg #[.int .i64 (a : Int), .int .i64 0]]) ∧ AtR w w' B b A n c e0 e1 e2 a dv D
  | .error (a, er) => e = .returned (.tuple #[.agg zeroBody, .agg #[.int .i64 (a : Int), .int .i64 er]]) ∧ AtR w w' B b A n c e0 e1 e2 a dv D
def scannedM {α : Type} (secM : Nat → RM α) (s : List Int) (e0 : Int) : RM α × List Int :=
  match chunksM (s.length + 1) s e0 0 [] with
  | (.error x, D) => (.error x, D)
  | (.ok (_, a), D) => (secM a, D)
set_option maxHeartbeats 4000000 in
set_option maxRecDepth 100000 in
theorem scanned_try {α : Type} (B b : Nat) (A : Option Addr) (c : Nat) (e0 e1 e2 : Int) (s : List Int) (w : World) (h : IsR w b A s.length c e0 e1 e2 0 (.slice none 0 0)) (hBb : B ≤ b) (hBw : B ≤ w.heap.size) (hC : Keeps B w fun W => Kd.C (Kd.int .u8) W A s.length s ∧ TabOk W) (hs : ByteL s) (hl : s.length ≤ 1073741824) (hsc : s.length ≤ c)
    (RL : World → Value → α → Prop) (secM : Nat → RM α)
    (hSec : ∀ (w1 W : World) (a : Nat) (dv : Value) (D : List Int), Below B w w1 → AtR w1 W B b A s.length c e0 e1 e2 a dv D → a ≤ s.length → Calls Tryz.prog 39 #[.pointer (some ⟨b, 0, none⟩)] W fun e w' => match secM a with
      | .ok (l, a1) => ∃ A' n' c', e = .returned (.slice A' n' c') ∧ RL w' (.slice A' n' c') l ∧ AtR W w' B b A s.length c e0 e1 e2 a1 dv D
      | .error (a1, er) => e = gaveUp a1 er ∧ AtR W w' B b A s.length c e0 e1 e2 a1 dv D)
    (hRL : ∀ (W W' : World) (v : Value) (l : α) (bB bE : Nat) (cs1 cs2 : Array Value), RL W v l → W.heap[bB]? = some (.cells cs1 42 (0, 0)) → W.heap[bE]? = some (.cells cs2 74 (0, 0)) → (∀ k, ¬ k = bB → ¬ k = bE → W'.heap[k]? = W.heap[k]?) → RL W' v l) :
    Calls Tryz.prog 23 #[.pointer (some ⟨b, 0, none⟩)] w (DoesS w B b A s.length c e0 e1 e2 RL (scannedM secM s e0).1 (scannedM secM s e0).2) := by
  have hmf : ∀ (fn : Fn) (first cap : Array Value) (w : World), (Instr.makeFunc fn first cap).run Tryz.prog w = .ok (.func fn first cap) w := fun _ _ _ _ => rfl
  have HI := Aside0.mk h
  have HK := Aside0.mk hC
  have HS := Aside0.mk hs
  have HSEC := Aside0.mk hSec
  have HRL := Aside0.mk hRL
  clear h hC hs hSec hRL
  go_enter_defers Tryz.func23, Tryz.ntmps23
  go_wp2_with fail
  obtain ⟨w0, hw0⟩ : ∃ w0, (w.alloc (.cells zeroBody 42)).alloc (.cells #[.int .i64 0, .int .i64 0] 74) = w0 := ⟨_, rfl⟩
  have hB0 : w0.heap[w.heap.size]? = some (.cells zeroBody 42 (0, 0)) := by
    rw [← hw0]
    exact (below_alloc (Below.refl (w.alloc (.cells zeroBody 42)).heap.size _) _).block _ (by simp) |>.trans (heap_alloc_new w _)
  have hE0 : w0.heap[w.heap.size + 1]? = some (.cells #[.int .i64 0, .int .i64 0] 74 (0, 0)) := by
    rw [← hw0]
    simpa using heap_alloc_new (w.alloc (.cells zeroBody 42)) (.cells #[.int .i64 0, .int .i64 0] 74)
  have hb0 : Below w.heap.size w w0 := by
    rw [← hw0]
    exact below_alloc (below_alloc (Below.refl _ _) _) _
  have A0 := Aside0.mk (show AtR w0 w0 B b A s.length c e0 e1 e2 0 (.slice none 0 0) [] from ⟨HI.out.below hb0, RowD.zero _ _, Fore.refl _ _, Below.refl _ _⟩)
  have HB0 := Aside0.mk hB0
  have HE0 := Aside0.mk hE0
  have HW0 := Aside0.mk hb0
  have hlt := HI.out.lt
  show Code.wp _ _ _ _ ((w.alloc (.cells zeroBody 42)).alloc (.cells #[.int .i64 0, .int .i64 0] 74))
  rw [hw0]
  clear hB0 hE0 hb0 hw0
  go_loopw [6, 7] (fun u6 u7 wr => ∃ (f a : Nat) (dv : Value) (D : List Int), s.length - a < f ∧ a ≤ s.length ∧ D.length ≤ a ∧ Aside0 (chunksM f s e0 a D = chunksM (s.length + 1) s e0 0 []) ∧ Aside0 (AtR w0 wr B b A s.length c e0 e1 e2 a dv D)) (fun _ _ wr => s.length - atOf b wr)
  case atStart => exact ⟨s.length + 1, 0, _, [], by omega, Nat.zero_le _, Nat.le_refl _, ⟨rfl⟩, A0⟩
  case round =>
    obtain ⟨f, a, dv, D, hf, ha, hD, he, hA⟩ := hrel
    obtain ⟨f, rfl⟩ : ∃ m, f = m + 1 := ⟨f - 1, by omega⟩
    have hc := chunk_does B b A c e0 e1 e2 a dv s D wr hA.out.i hA.out.r hBb (Nat.le_trans hBw (Nat.le_trans HW0.out.size hA.out.b.size)) (fun W hW => HK.out W ((HW0.out.mono hBw).trans (hA.out.b.trans hW))) HS.out hl (by omega) hsc ha
    have HE := Aside0.mk he.out
    rw [chunksM] at HE
    have hgt := fun (x : Bool) (a1 : Nat) => chunkM_gt (a1 := a1) (x := x) HS.out (e0 := e0) ha
    have hdt := fun (x : Bool) (a1 : Nat) => chunkM_data (s := s) (e0 := e0) (a := a) (a1 := a1) (x := x)
    have hFB := Aside0.mk (hA.out.f w.heap.size _ _ (by decide) (by omega) HB0.out)
    have hFE := Aside0.mk (hA.out.f (w.heap.size + 1) _ _ (by decide) (by omega) HE0.out)
    obtain ⟨q, hq⟩ : ∃ q, chunkM s e0 a = q := ⟨_, rfl⟩
    rw [hq] at hc HE
    simp only [hq] at hgt hdt
    clear hq he
    obtain ⟨m, d⟩ := q
    dsimp only at hc hgt hdt
    rcases m with ⟨a1, er⟩ | ⟨x, a1⟩
    · go_wp2_with fail
      refine hc.mono ?_
      rintro e w2 ⟨dv2, hr, hb, rfl, hi⟩
      have A2 := Aside0.mk (show AtR w0 w2 B b A s.length c e0 e1 e2 a1 dv2 (D ++ d) from ⟨hi, hr, hA.out.f.trans hb.2, hA.out.b.trans hb.1⟩)
      have hFB2 := hb.2 w.heap.size _ _ (by decide) (by omega) hFB.out
      have hFE2 := hb.2 (w.heap.size + 1) _ _ (by decide) (by omega) hFE.out
      have hcp := catch_panicking w.heap.size (w.heap.size + 1) (by omega) _ _ _ _ _ (a1 : Int) er [] w2 hFB2 hFE2
      show Leaves Tryz.prog Tryz.f23 _ _ [_] (.panicking [_]) w2
      refine leaves_cons (f := 37) (args := #[.pointer (some ⟨w.heap.size, 0, none⟩), .pointer (some ⟨w.heap.size + 1, 0, none⟩)]) (by simp) (by simp [go_sem]) ?_
      refine hcp.mono ?_
      rintro e u' w3 ⟨rfl, rfl, f1, f2, b3, o3⟩
      refine ⟨.tuple #[.agg zeroBody, .agg #[.int .i64 (a1 : Int), .int .i64 er]], ?_, ?_⟩
      · exact results_rows2 (p := 2) (q := 3) rfl _ w3 w.heap.size (w.heap.size + 1) _ _ _ _ rfl rfl f1 f2 Tryz.underlying42 rfl (by kernel_rfl) Tryz.underlying74 rfl (by kernel_rfl)
      · have hM : scannedM secM s e0 = (.error (a1, er), D ++ d) := by
          unfold scannedM
          rw [← HE.out]
        rw [hM]
        exact ⟨dv2, rfl, A2.out.leave HW0.out hBw hlt hFB2 hFE2 (by decide) (by decide) b3 o3⟩
    · have hg := hgt x a1 rfl
      have hd := hdt x a1 rfl
      cases x with
      | true =>
        have HE : Aside0 (chunksM f s e0 a1 (D ++ d) = chunksM (s.length + 1) s e0 0 []) := HE
        go_wp2_with fail
        refine hc.mono ?_
        rintro e w2 ⟨dv2, hr, hb, rfl, hi⟩
        have A2 := Aside0.mk (show AtR w0 w2 B b A s.length c e0 e1 e2 a1 dv2 (D ++ d) from ⟨hi, hr, hA.out.f.trans hb.2, hA.out.b.trans hb.1⟩)
        have hm1 := A2.out.atOf
        have hm0 := hA.out.atOf
        clear hc hr hb hi
        go_wp2
        go_roundw
        case rel => exact ⟨f, a1, dv2, D ++ d, by omega, hg.2, by rw [List.length_append]; omega, HE, A2⟩
        case measure => rw [hm0, hm1]; omega
      | false =>
        go_wp2_with fail
        refine hc.mono ?_
        rintro e w2 ⟨dv2, hr, hb, rfl, hi⟩
        have A2 := Aside0.mk (show AtR w0 w2 B b A s.length c e0 e1 e2 a1 dv2 (D ++ d) from ⟨hi, hr, hA.out.f.trans hb.2, hA.out.b.trans hb.1⟩)
        have hFB2 := Aside0.mk (hb.2 w.heap.size _ _ (by decide) (by omega) hFB.out)
        have hFE2 := Aside0.mk (hb.2 (w.heap.size + 1) _ _ (by decide) (by omega) hFE.out)
        have hsec := HSEC.out w0 w2 a1 dv2 (D ++ d) (HW0.out.mono hBw) A2.out hg.2
        have hM : scannedM secM s e0 = (secM a1, D ++ d) := by
          unfold scannedM
          rw [← HE.out]
        have HM := Aside0.mk hM
        clear hc hr hb hi hM
        cases hs2 : secM a1 with
        | error x =>
          obtain ⟨a3, er⟩ := x
          rw [hs2] at hsec HM
          go_wp2_with fail
          refine hsec.mono ?_
          rintro e w5 ⟨rfl, hA5⟩
          have A5 := Aside0.mk (show AtR w0 w5 B b A s.length c e0 e1 e2 a3 dv2 (D ++ d) from ⟨hA5.i, hA5.r, A2.out.f.trans hA5.f, A2.out.b.trans hA5.b⟩)
          have hFB5 := hA5.f w.heap.size _ _ (by decide) (by omega) hFB2.out
          have hFE5 := hA5.f (w.heap.size + 1) _ _ (by decide) (by omega) hFE2.out
          have hcp := catch_panicking w.heap.size (w.heap.size + 1) (by omega) _ _ _ _ _ (a3 : Int) er [] w5 hFB5 hFE5
          show Leaves Tryz.prog Tryz.f23 _ _ [_] (.panicking [_]) w5
          refine leaves_cons (f := 37) (args := #[.pointer (some ⟨w.heap.size, 0, none⟩), .pointer (some ⟨w.heap.size + 1, 0, none⟩)]) (by simp) (by simp [go_sem]) ?_
          refine hcp.mono ?_
          rintro e u' w3 ⟨rfl, rfl, f1, f2, b3, o3⟩
          refine ⟨.tuple #[.agg zeroBody, .agg #[.int .i64 (a3 : Int), .int .i64 er]], ?_, ?_⟩
          · exact results_rows2 (p := 2) (q := 3) rfl _ w3 w.heap.size (w.heap.size + 1) _ _ _ _ rfl rfl f1 f2 Tryz.underlying42 rfl (by kernel_rfl) Tryz.underlying74 rfl (by kernel_rfl)
          · rw [HM.out]
            exact ⟨dv2, rfl, A5.out.leave HW0.out hBw hlt hFB5 hFE5 (by decide) (by decide) b3 o3⟩
        | ok x =>
          obtain ⟨l, a3⟩ := x
          rw [hs2] at hsec HM
          go_wp2_with fail
          refine hsec.mono ?_
          rintro e w5 ⟨A', n', c', rfl, hl5, hA5⟩
          have A5 := Aside0.mk (show AtR w0 w5 B b A s.length c e0 e1 e2 a3 dv2 (D ++ d) from ⟨hA5.i, hA5.r, A2.out.f.trans hA5.f, A2.out.b.trans hA5.b⟩)
          have hFB5 := hA5.f w.heap.size _ _ (by decide) (by omega) hFB2.out
          have hFE5 := hA5.f (w.heap.size + 1) _ _ (by decide) (by omega) hFE2.out
          obtain ⟨A1, kc, q1, _, _⟩ := hA5.r.reads
          subst q1
          have c4 := hA5.i.c4
          have c5 := hA5.i.c5
          have hne1 : ¬ b = w.heap.size := by omega
          have hne2 : ¬ b = w.heap.size + 1 := by omega
          have k0 : w5.cell? ⟨w.heap.size, 0, none⟩ = some (.slice none 0 0) := (blk_cell hFB5 0).trans rfl
          have k1 : w5.cell? ⟨w.heap.size, 1, none⟩ = some (.slice none 0 0) := (blk_cell hFB5 1).trans rfl
          have k2 : w5.cell? ⟨w.heap.size, 2, none⟩ = some (.int .i64 0) := (blk_cell hFB5 2).trans rfl
          have l0 : w5.cell? ⟨w.heap.size + 1, 0, none⟩ = some (.int .i64 0) := (blk_cell hFE5 0).trans rfl
          have l1 : w5.cell? ⟨w.heap.size + 1, 1, none⟩ = some (.int .i64 0) := (blk_cell hFE5 1).trans rfl
          have f0 : w5.frozen? ⟨w.heap.size, 0, none⟩ = false := blk_frozen hFB5 0
          have f1 : w5.frozen? ⟨w.heap.size, 1, none⟩ = false := blk_frozen hFB5 1
          have f2 : w5.frozen? ⟨w.heap.size, 2, none⟩ = false := blk_frozen hFB5 2
          have f3 : w5.frozen? ⟨w.heap.size + 1, 0, none⟩ = false := blk_frozen hFE5 0
          have f4 : w5.frozen? ⟨w.heap.size + 1, 1, none⟩ = false := blk_frozen hFE5 1
          have HFB5 := Aside0.mk hFB5
          have HFE5 := Aside0.mk hFE5
          have HL5 := Aside0.mk hl5
          clear hFB5 hFE5 hl5 hA5 hsec hgt hdt
          go_wp2_with fail
          obtain ⟨N, hN⟩ : ∃ N, (D ++ d).length = N := ⟨_, rfl⟩
          rw [hN] at c5
          have HN := Aside0.mk hN
          clear hN
          have HLT := Aside0.mk hlt
          have HBW := Aside0.mk hBw
          clear hg hd ha hf hD hs2 hmf HE HSEC hlt hBw hBb hl hsc
          generalize hbB : w.heap.size = bB at *
          generalize hbE : bB + 1 = bE at *
          have HbB := Aside0.mk hbB
          have HbE := Aside0.mk hbE
          have c4d : w5.drew.cell? ⟨b, 4, none⟩ = some (.int .i64 (a3 : Int)) := c4
          have c5d : w5.drew.cell? ⟨b, 5, none⟩ = some (.slice A1 N kc) := c5
          have hq1 : ¬ bB = bE := by omega
          have hq2 : ¬ bE = bB := by omega
          clear hbB hbE
          go_region_held3 (fun W => W.cell? ⟨b, 4, none⟩ = some (.int .i64 (a3 : Int)) ∧ W.cell? ⟨b, 5, none⟩ = some (.slice A1 N kc)) (first | with_reducible exact ⟨c4d, c5d⟩ | with_reducible exact farB hne1 w5 _ _ _ _ _ c4 c5 | with_reducible exact farE hne1 hne2 w5 _ _ _ _ _ _ _ c4 c5) (fail)
          generalize hW6 : (((((w5.setCell ⟨bB, 0, none⟩ (.slice A1 N kc)).setCell ⟨bB, 1, none⟩ (.slice A' n' c')).setCell ⟨bB, 2, none⟩ (.int .i64 (a3 : Int))).setCell ⟨bE, 0, none⟩ (.int .i64 (a3 : Int))).setCell ⟨bE, 1, none⟩ (.int .i64 0)).drew = w6
          have HW6 := Aside0.mk hW6
          clear hW6
          go_wp2_with fail
          show Leaves Tryz.prog Tryz.f23 _ _ [_] .returning w6
          refine leaves_cons (f := 37) (args := #[.pointer (some ⟨bB, 0, none⟩), .pointer (some ⟨bE, 0, none⟩)]) (by simp) (by simp [go_sem]) ?_
          refine (catch_idle ⟨bB, 0, none⟩ ⟨bE, 0, none⟩ w6).mono ?_
          rintro e u' w7 ⟨rfl, rfl, rfl⟩
          obtain ⟨x1, x2, x3, x4⟩ := setBE bB bE hq1 (.slice A1 N kc) (.slice A' n' c') (.int .i64 (a3 : Int)) (.int .i64 (a3 : Int)) (.int .i64 0) w5 _ _ _ _ _ HFB5.out HFE5.out
          rw [HW6.out] at x1 x2 x3 x4
          refine ⟨.tuple #[.agg #[.slice A1 N kc, .slice A' n' c', .int .i64 (a3 : Int)], .agg #[.int .i64 (a3 : Int), .int .i64 0]], ?_, ?_⟩
          · exact results_rows2 (p := 2) (q := 3) rfl _ w7 bB bE _ _ _ _ rfl rfl x1 x2 Tryz.underlying42 rfl (by kernel_rfl) Tryz.underlying74 rfl (by kernel_rfl)
          · rw [HM.out]
            have e1 := HbB.out
            subst e1
            have e2 := HbE.out
            subst e2
            rw [← HN.out] at *
            refine ⟨.slice A1 (D ++ d).length kc, .slice A' n' c', HRL.out w5 w7 _ _ _ _ _ _ HL5.out HFB5.out HFE5.out x4, rfl, ?_⟩
            exact A5.out.leave HW0.out HBW.out HLT.out HFB5.out HFE5.out (by decide) (by decide) x3 x4
end Go.Proofs.YtmmbpbgcobmifaaGreatDoorH
end
section
namespace Go.Proofs.YtmmbpbgcobmifaaGreatDoorM
structure MEnv (β : Type) where
  dg : Int → Int
  tx : Int → Bool
  tk : Int → Bool
  pf : List Int → β
  e0 : Nat
  e1 : Nat
  e2 : Nat
structure MSt (β : Type) where
  place : Nat
  n : Nat
  count : Nat
  lines : Nat
  size : Nat
  text : List Int
  data : List Int
  fields : List β
section
variable {β : Type} (E : MEnv β)
def mline (s : MSt β) (c : Int) : Except Int (MSt β) :=
  if E.e2 ≤ s.size then .error 5
  else if c = 10 ∧ s.place = 9 then .ok { s with size := s.size + 1, fields := s.fields ++ [E.pf s.text.dropLast], text := [], place := 6 }
  else .ok { s with size := s.size + 1, text := s.text ++ [c] }
def mstep (s : MSt β) (c : Int) : Except Int (MSt β) :=
  match s.place with
  | 0 => if 0 ≤ E.dg c then (if s.count = 16 ∨ (4611686018427387903 - (E.dg c).toNat) / 16 < s.n then .error 3 else .ok { s with n := 16 * s.n + (E.dg c).toNat, count := s.count + 1 })
    else if s.count = 0 ∨ (c ≠ 59 ∧ c ≠ 13) then .error 2
    else if c = 13 then .ok { s with place := 2 }
    else if E.e0 < 1 then .error 5
    else .ok { s with place := 1, count := 1 }
  | 1 => if c = 13 then .ok { s with place := 2 } else if E.tx c = false then .error 2 else if E.e0 ≤ s.count then .error 5 else .ok { s with count := s.count + 1 }
  | 2 => if c ≠ 10 then .error 2 else if 0 < s.n then .ok { s with place := 3 } else .ok { s with place := 6 }
  | 3 => if s.n - 1 = 0 then .ok { s with data := s.data ++ [c], n := s.n - 1, place := 4 } else .ok { s with data := s.data ++ [c], n := s.n - 1 }
  | 4 => if c ≠ 13 then .error 2 else .ok { s with place := 5 }
  | 5 => if c ≠ 10 then .error 2 else .ok { s with place := 0, count := 0 }
  | 6 => if c = 13 then .ok { s with place := 10 } else if E.tk c = false then .error 2 else if E.e1 ≤ s.lines then .error 5 else mline E { s with lines := s.lines + 1, place := 7 } c
  | 7 => if c = 58 then mline E { s with place := 8 } c else if E.tk c = false then .error 2 else mline E s c
  | 8 => if c = 13 then mline E { s with place := 9 } c else if E.tx c = false then .error 2 else mline E s c
  | 9 => if c ≠ 10 then .error 2 else mline E s c
  | 10 => if c ≠ 10 then .error 2 else .ok { s with place := 11 }
  | _ => .ok s
def mrun : MSt β → List Int → Nat → MSt β × Nat × Int
  | s, [], i => (s, i, 4)
  | s, c :: r, i => match mstep E s c with
    | .error e => (s, i, e)
    | .ok x => if x.place = 11 then (x, i + 1, 0) else mrun x r (i + 1)
def minit : MSt β := ⟨0, 0, 0, 0, 0, [], [], []⟩
variable {E}
theorem step0 {s : MSt β} {c : Int} (h : s.place = 0) : mstep E s c = (if 0 ≤ E.dg c then (if s.count = 16 ∨ (4611686018427387903 - (E.dg c).toNat) / 16 < s.n then .error 3 else .ok { s with n := 16 * s.n + (E.dg c).toNat, count := s.count + 1 })
    else if s.count = 0 ∨ (c ≠ 59 ∧ c ≠ 13) then .error 2
    else if c = 13 then .ok { s with place := 2 }
    else if E.e0 < 1 then .error 5
    else .ok { s with place := 1, count := 1 }) := by
  cases s; cases h; rfl
theorem step1 {s : MSt β} {c : Int} (h : s.place = 1) : mstep E s c = (if c = 13 then .ok { s with place := 2 } else if E.tx c = false then .error 2 else if E.e0 ≤ s.count then .error 5 else .ok { s with count := s.count + 1 }) := by
  cases s; cases h; rfl
theorem step2 {s : MSt β} {c : Int} (h : s.place = 2) : mstep E s c = (if c ≠ 10 then .error 2 else if 0 < s.n then .ok { s with place := 3 } else .ok { s with place := 6 }) := by
  cases s; cases h; rfl
theorem step3 {s : MSt β} {c : Int} (h : s.place = 3) : mstep E s c = (if s.n - 1 = 0 then .ok { s with data := s.data ++ [c], n := s.n - 1, place := 4 } else .ok { s with data := s.data ++ [c], n := s.n - 1 }) := by
  cases s; cases h; rfl
theorem step4 {s : MSt β} {c : Int} (h : s.place = 4) : mstep E s c = (if c ≠ 13 then .error 2 else .ok { s with place := 5 }) := by
  cases s; cases h; rfl
theorem step5 {s : MSt β} {c : Int} (h : s.place = 5) : mstep E s c = (if c ≠ 10 then .error 2 else .ok { s with place := 0, count := 0 }) := by
  cases s; cases h; rfl
theorem step6 {s : MSt β} {c : Int} (h : s.place = 6) : mstep E s c = (if c = 13 then .ok { s with place := 10 } else if E.tk c = false then .error 2 else if E.e1 ≤ s.lines then .error 5 else mline E { s with lines := s.lines + 1, place := 7 } c) := by
  cases s; cases h; rfl
theorem step7 {s : MSt β} {c : Int} (h : s.place = 7) : mstep E s c = (if c = 58 then mline E { s with place := 8 } c else if E.tk c = false then .error 2 else mline E s c) := by
  cases s; cases h; rfl
theorem step8 {s : MSt β} {c : Int} (h : s.place = 8) : mstep E s c = (if c = 13 then mline E { s with place := 9 } c else if E.tx c = false then .error 2 else mline E s c) := by
  cases s; cases h; rfl
theorem step9 {s : MSt β} {c : Int} (h : s.place = 9) : mstep E s c = (if c ≠ 10 then .error 2 else mline E s c) := by
  cases s; cases h; rfl
theorem step10 {s : MSt β} {c : Int} (h : s.place = 10) : mstep E s c = (if c ≠ 10 then .error 2 else .ok { s with place := 11 }) := by
  cases s; cases h; rfl
theorem run_err {s : MSt β} {c : Int} {r : List Int} {i : Nat} {e : Int} (h : mstep E s c = .error e) : mrun E s (c :: r) i = (s, i, e) := by rw [mrun, h]
theorem run_on {s x : MSt β} {c : Int} {r : List Int} {i : Nat} (h : mstep E s c = .ok x) (hp : x.place ≠ 11) : mrun E s (c :: r) i = mrun E x r (i + 1) := by
  rw [mrun, h]; exact if_neg hp
theorem run_fin {s x : MSt β} {c : Int} {r : List Int} {i : Nat} (h : mstep E s c = .ok x) (hp : x.place = 11) : mrun E s (c :: r) i = (x, i + 1, 0) := by
  rw [mrun, h]; exact if_pos hp
theorem run_data : ∀ (m : Nat) (r : List Int) (i : Nat) (s : MSt β), s.place = 3 → s.n = m + 1 →
    mrun E s r i = if m + 1 ≤ r.length then mrun E { s with place := 4, n := 0, data := s.data ++ r.take (m + 1) } (r.drop (m + 1)) (i + (m + 1)) else ({ s with n := s.n - r.length, data := s.data ++ r }, i + r.length, 4)
  | m, [], i, s, hp, hn => by
    rw [if_neg (by simp), mrun]
    simp
  | 0, c :: r, i, s, hp, hn => by
    have hst : mstep E s c = .ok { s with data := s.data ++ [c], n := s.n - 1, place := 4 } := by
      rw [step3 hp, if_pos (by omega)]
    rw [run_on hst (by simp), if_pos (by simp), show s.n - 1 = 0 by omega]
    rfl
  | m + 1, c :: r, i, s, hp, hn => by
    have hst : mstep E s c = .ok { s with data := s.data ++ [c], n := s.n - 1 } := by
      rw [step3 hp, if_neg (by omega)]
    rw [run_on hst (by show s.place ≠ 11; omega), run_data m r (i + 1) { s with data := s.data ++ [c], n := s.n - 1 } hp (by show s.n - 1 = m + 1; omega)]
    by_cases h : m + 1 ≤ r.length
    · rw [if_pos h, if_pos (by simp; omega)]
      simp only [List.take_succ_cons, List.drop_succ_cons, List.append_assoc, List.singleton_append]
      congr 1
      omega
    · rw [if_neg h, if_neg (by simp; omega)]
      simp only [List.length_cons, List.append_assoc, List.singleton_append, Prod.mk.injEq, and_true]
      constructor
      · congr 1
        omega
      · omega
end
section
variable {β : Type} {E E' : MEnv β}
end
def scanI (nx : Int → Int → Int × Bool) : Nat → List Int → Int → Nat × Int
  | i, [], _ => (i, 4)
  | i, c :: l, st => if (nx st c).2 = true then (if (nx st c).1 = 5 then (i + 1, 0) else scanI nx (i + 1) l (nx st c).1) else (i, 2)
def lfLine : List Int → List Int × List Int
  | [] => ([], [])
  | c :: r => if c = 10 then ([10], r) else (c :: (lfLine r).1, (lfLine r).2)
def beyM (e1 e2 : Nat) : Nat → List Int → Nat → Nat → Int
  | 0, _, _, _ => -1
  | f + 1, r, z, k => if r = [] then -1 else if (lfLine r).1.getD 0 0 = 13 then -1 else if e1 < k + 1 then (z : Int) else if e2 < z + (lfLine r).1.length then (e2 : Int) else beyM e1 e2 f (lfLine r).2 (z + (lfLine r).1.length) (k + 1)
structure NextOk {β : Type} (E : MEnv β) (nx : Int → Int → Int × Bool) (B : Int → Prop) : Prop where
  n0 : ∀ c, B c → nx 0 c = if c = 13 then (4, true) else (1, E.tk c)
  n1 : ∀ c, B c → nx 1 c = if c = 58 then (2, true) else (1, E.tk c)
  n2 : ∀ c, B c → nx 2 c = if c = 13 then (3, true) else (2, E.tx c)
  n3 : ∀ c, B c → nx 3 c = (0, c == 10)
  n4 : ∀ c, B c → nx 4 c = (5, c == 10)
  k10 : E.tk 10 = false
  k13 : E.tk 13 = false
  t10 : E.tx 10 = false
  t13 : E.tx 13 = false
section
variable {β : Type} {E : MEnv β} {nx : Int → Int → Int × Bool} {B : Int → Prop}
theorem scanI_ge : ∀ (l : List Int) (i : Nat) (st : Int), i ≤ (scanI nx i l st).1 ∧ (scanI nx i l st).1 ≤ i + l.length
  | [], i, st => ⟨Nat.le_refl _, Nat.le_refl _⟩
  | c :: l, i, st => by
    rw [scanI]
    split
    · split
      · simp only [List.length_cons]; omega
      · have := scanI_ge l (i + 1) (nx st c).1
        simp only [List.length_cons]; omega
    · simp only [List.length_cons]; omega
theorem scanI_bad {i : Nat} {c : Int} {l : List Int} {st x : Int} (h : nx st c = (x, false)) : scanI nx i (c :: l) st = (i, 2) := by
  rw [scanI, h, if_neg (by simp)]
theorem scanI_on {i : Nat} {c : Int} {l : List Int} {st x : Int} (h : nx st c = (x, true)) (hx : x ≠ 5) : scanI nx i (c :: l) st = scanI nx (i + 1) l x := by
  rw [scanI, h]; simp only [if_true]; rw [if_neg hx]
theorem scanI_fin {i : Nat} {c : Int} {l : List Int} {st : Int} (h : nx st c = (5, true)) : scanI nx i (c :: l) st = (i + 1, 0) := by
  rw [scanI, h]; simp only [if_true]
theorem line_full {s : MSt β} {c : Int} (h : E.e2 ≤ s.size) : mline E s c = .error 5 := by unfold mline; rw [if_pos h]
theorem line_on {s : MSt β} {c : Int} (h : s.size < E.e2) (hc : ¬ (c = 10 ∧ s.place = 9)) : mline E s c = .ok { s with size := s.size + 1, text := s.text ++ [c] } := by unfold mline; rw [if_neg (by omega), if_neg hc]
theorem line_end {s : MSt β} (h : s.size < E.e2) (hp : s.place = 9) : mline E s 10 = .ok { s with size := s.size + 1, fields := s.fields ++ [E.pf s.text.dropLast], text := [], place := 6 } := by unfold mline; rw [if_neg (by omega), if_pos ⟨rfl, hp⟩]
def Stops (E : MEnv β) (st : MSt β) (r : List Int) (i n : Nat) (e : Int) : Prop := ∃ st', mrun E st r i = (st', n, e) ∧ st'.data = st.data
theorem Stops.of {st st' : MSt β} {r r' : List Int} {i i' n : Nat} {e : Int} (h : mrun E st r i = mrun E st' r' i') (hd : st'.data = st.data) (k : Stops E st' r' i' n e) : Stops E st r i n e := by
  obtain ⟨q, h1, h2⟩ := k
  exact ⟨q, h.trans h1, h2.trans hd⟩
theorem in_step (N : NextOk E nx B) {c : Int} (hB : B c) {st x : Int} (hst : st = 1 ∨ st = 2 ∨ st = 3) {X : MSt β} (hp : (X.place : Int) = st + 6) :
    (nx st c = (x, false) → mstep E X c = .error 2) ∧
    (nx st c = (x, true) → E.e2 ≤ X.size → mstep E X c = .error 5) ∧
    (nx st c = (x, true) → X.size < E.e2 →
      if st = 3 then c = 10 ∧ x = 0 ∧ mstep E X c = .ok { X with size := X.size + 1, fields := X.fields ++ [E.pf X.text.dropLast], text := [], place := 6 }
      else c ≠ 10 ∧ (x = 1 ∨ x = 2 ∨ x = 3) ∧ (x = 3 → c = 13) ∧ (x ≠ 3 → c ≠ 13) ∧ mstep E X c = .ok { X with size := X.size + 1, text := X.text ++ [c], place := (x + 6).toNat }) := by
  rcases hst with rfl | rfl | rfl
  · have hp7 : X.place = 7 := by omega
    rw [N.n1 c hB]
    by_cases h : c = 58
    · subst h
      rw [if_pos rfl]
      refine ⟨fun e => (by cases e), fun e hz => ?_, fun e hz => ?_⟩
      · rw [step7 hp7, if_pos rfl]; exact line_full hz
      · cases e
        rw [if_neg (by decide)]
        refine ⟨by decide, by decide, by decide, by decide, ?_⟩
        rw [step7 hp7, if_pos rfl, line_on (by exact hz) (fun h => absurd h.1 (by decide))]
        rfl
    · rw [if_neg h]
      refine ⟨fun e => ?_, fun e hz => ?_, fun e hz => ?_⟩
      · injection e with e1 e2
        rw [step7 hp7, if_neg h, if_pos e2]
      · injection e with e1 e2
        rw [step7 hp7, if_neg h, e2, if_neg (by simp), line_full hz]
      · injection e with e1 e2
        subst e1
        have h10 : c ≠ 10 := by rintro rfl; rw [N.k10] at e2; cases e2
        have h13 : c ≠ 13 := by rintro rfl; rw [N.k13] at e2; cases e2
        rw [if_neg (by decide)]
        refine ⟨h10, by decide, fun h => absurd h (by decide), fun _ => h13, ?_⟩
        rw [step7 hp7, if_neg h, e2, if_neg (by simp), line_on hz (fun e => h10 e.1), hp7]
        rfl
  · have hp8 : X.place = 8 := by omega
    rw [N.n2 c hB]
    by_cases h : c = 13
    · subst h
      rw [if_pos rfl]
      refine ⟨fun e => (by cases e), fun e hz => ?_, fun e hz => ?_⟩
      · rw [step8 hp8, if_pos rfl]; exact line_full hz
      · cases e
        rw [if_neg (by decide)]
        refine ⟨by decide, by decide, by decide, by decide, ?_⟩
        rw [step8 hp8, if_pos rfl, line_on (by exact hz) (fun h => absurd h.1 (by decide))]
        rfl
    · rw [if_neg h]
      refine ⟨fun e => ?_, fun e hz => ?_, fun e hz => ?_⟩
      · injection e with e1 e2
        rw [step8 hp8, if_neg h, if_pos e2]
      · injection e with e1 e2
        rw [step8 hp8, if_neg h, e2, if_neg (by simp), line_full hz]
      · injection e with e1 e2
        subst e1
        have h10 : c ≠ 10 := by rintro rfl; rw [N.t10] at e2; cases e2
        rw [if_neg (by decide)]
        refine ⟨h10, by decide, fun h => absurd h (by decide), fun _ => h, ?_⟩
        rw [step8 hp8, if_neg h, e2, if_neg (by simp), line_on hz (fun e => h10 e.1), hp8]
        rfl
  · have hp9 : X.place = 9 := by omega
    rw [N.n3 c hB]
    refine ⟨fun e => ?_, fun e hz => ?_, fun e hz => ?_⟩
    · injection e with e1 e2
      have : c ≠ 10 := by simpa using e2
      rw [step9 hp9, if_pos this]
    · injection e with e1 e2
      have : c = 10 := by simpa using e2
      rw [step9 hp9, if_neg (by simp [this]), line_full hz]
    · injection e with e1 e2
      have : c = 10 := by simpa using e2
      subst this
      rw [if_pos rfl]
      refine ⟨rfl, e1.symm, ?_⟩
      rw [step9 hp9, if_neg (by simp), line_end hz hp9]
theorem line_run (N : NextOk E nx B) : ∀ (r : List Int) (i : Nat) (st : Int) (X : MSt β), (∀ c ∈ r, B c) → (st = 1 ∨ st = 2 ∨ st = 3) → (X.place : Int) = st + 6 → X.size ≤ E.e2 → ∀ (n : Nat) (e : Int), scanI nx i r st = (n, e) →
    ∃ ln rest, lfLine (r.take (n - i)) = (ln, rest) ∧
      ((E.e2 < X.size + ln.length ∧ Stops E X r i (i + (E.e2 - X.size)) 5) ∨
       (X.size + ln.length ≤ E.e2 ∧ e ≠ 0 ∧ rest = [] ∧ Stops E X r i n e) ∨
       (X.size + ln.length ≤ E.e2 ∧ ∃ w, ln = (if st = 3 then [10] else w ++ [13, 10]) ∧ (∀ c ∈ w, c ≠ 13 ∧ c ≠ 10) ∧ ∃ r', r = ln ++ r' ∧ scanI nx (i + ln.length) r' 0 = (n, e) ∧ rest = r'.take (n - (i + ln.length)) ∧
          mrun E X r i = mrun E { X with place := 6, size := X.size + ln.length, text := [], fields := X.fields ++ [E.pf (X.text ++ ln.dropLast).dropLast] } r' (i + ln.length)))
  | [], i, st, X, _, hst, hp, hz, n, e, hs => by
    cases hs
    refine ⟨[], [], by simp [lfLine], .inr (.inl ⟨by simpa using hz, by decide, rfl, X, rfl, rfl⟩)⟩
  | c :: r, i, st, X, hB, hst, hp, hz, n, e, hs => by
    obtain ⟨q, hq⟩ : ∃ q, nx st c = q := ⟨_, rfl⟩
    obtain ⟨x, ok⟩ := q
    obtain ⟨s1, s2, s3⟩ := in_step (x := x) N (hB c List.mem_cons_self) hst hp
    cases ok with
    | false =>
      rw [scanI_bad hq] at hs
      cases hs
      refine ⟨[], [], by simp [lfLine], .inr (.inl ⟨by simpa using hz, by decide, rfl, X, ?_, rfl⟩)⟩
      rw [run_err (s1 hq)]
    | true =>
      have hx5 : x ≠ 5 := by
        rcases hst with rfl | rfl | rfl
        · rw [N.n1 c (hB c List.mem_cons_self)] at hq
          split at hq <;> (injection hq with h1 h2; subst h1; decide)
        · rw [N.n2 c (hB c List.mem_cons_self)] at hq
          split at hq <;> (injection hq with h1 h2; subst h1; decide)
        · rw [N.n3 c (hB c List.mem_cons_self)] at hq
          injection hq with h1 h2
          subst h1; decide
      rw [scanI_on hq hx5] at hs
      have hge := scanI_ge (nx := nx) r (i + 1) x
      rw [hs] at hge
      dsimp only at hge
      have htk : (c :: r).take (n - i) = c :: r.take (n - (i + 1)) := by
        obtain ⟨m, hm⟩ : ∃ m, n - i = m + 1 := ⟨n - i - 1, by omega⟩
        rw [hm, List.take_succ_cons]
        congr 2
        omega
      rw [htk]
      by_cases hfull : E.e2 ≤ X.size
      · have hlen : ∃ ln rest, lfLine (c :: r.take (n - (i + 1))) = (ln, rest) ∧ 0 < ln.length := by
          rw [lfLine]
          split
          · exact ⟨_, _, rfl, by simp⟩
          · exact ⟨_, _, rfl, by simp⟩
        obtain ⟨ln, rest, h1, h2⟩ := hlen
        refine ⟨ln, rest, h1, .inl ⟨by omega, X, ?_, rfl⟩⟩
        rw [run_err (s2 hq hfull), show i + (E.e2 - X.size) = i by omega]
      · have s4 := s3 hq (by omega)
        by_cases h3 : st = 3
        · rw [if_pos h3] at s4
          obtain ⟨rfl, rfl, hstep⟩ := s4
          refine ⟨[10], r.take (n - (i + 1)), by rw [lfLine, if_pos rfl], .inr (.inr ⟨by simp; omega, [], by rw [if_pos h3], by simp, r, rfl, hs, rfl, ?_⟩)⟩
          rw [run_on hstep (by simp)]
          simp
        · rw [if_neg h3] at s4
          obtain ⟨h10, hx, hx3, hx13, hstep⟩ := s4
          obtain ⟨ln, rest, hl, hc⟩ := line_run N r (i + 1) x { X with size := X.size + 1, text := X.text ++ [c], place := (x + 6).toNat } (fun d hd => hB d (List.mem_cons_of_mem _ hd)) hx (by show ((x + 6).toNat : Int) = x + 6; omega) (by show X.size + 1 ≤ E.e2; omega) n e hs
          have hr : mrun E X (c :: r) i = mrun E { X with size := X.size + 1, text := X.text ++ [c], place := (x + 6).toNat } r (i + 1) := run_on hstep (by show (x + 6).toNat ≠ 11; omega)
          refine ⟨c :: ln, rest, by rw [lfLine, if_neg h10, hl], ?_⟩
          rcases hc with ⟨h1, h2⟩ | ⟨h1, h2, h4, h5⟩ | ⟨h1, w, h2, h4, r', h5, h6, h7, h8⟩
          · refine .inl ⟨by simp only [List.length_cons]; dsimp only at h1; omega, Stops.of hr rfl ?_⟩
            have : i + (E.e2 - X.size) = i + 1 + (E.e2 - (X.size + 1)) := by omega
            rw [this]
            exact h2
          · exact .inr (.inl ⟨by simp only [List.length_cons]; dsimp only at h1; omega, h2, h4, Stops.of hr rfl h5⟩)
          · refine .inr (.inr ⟨by simp only [List.length_cons]; dsimp only at h1; omega, if x = 3 then [] else c :: w, ?_, ?_, r', by rw [h5]; rfl, by rw [List.length_cons, show i + (ln.length + 1) = i + 1 + ln.length by omega]; exact h6, by rw [List.length_cons, show i + (ln.length + 1) = i + 1 + ln.length by omega]; exact h7, ?_⟩)
            · rw [if_neg h3]
              by_cases e3 : x = 3
              · rw [if_pos e3] at h2 ⊢
                rw [h2, hx3 e3]; rfl
              · rw [if_neg e3] at h2 ⊢
                rw [h2]; rfl
            · split
              · simp
              · rename_i e3
                intro d hd
                rcases List.mem_cons.1 hd with rfl | hd
                · exact ⟨hx13 e3, h10⟩
                · exact h4 d hd
            · rw [hr, h8]
              have hne : ln ≠ [] := by
                rw [h2]; split <;> simp
              simp only [List.length_cons, List.dropLast_cons_of_ne_nil hne, List.append_assoc, List.singleton_append]
              congr 1
              · congr 1
                omega
              · omega
theorem lf_snd_lt : ∀ (r : List Int), r ≠ [] → (lfLine r).2.length < r.length
  | [], h => absurd rfl h
  | c :: r, _ => by
    rw [lfLine]
    split
    · simp
    · cases r with
      | nil => simp [lfLine]
      | cons d r =>
        have := lf_snd_lt (d :: r) (by simp)
        simp only [List.length_cons] at this ⊢
        omega
theorem sect_run (N : NextOk E nx B) : ∀ (f : Nat) (r : List Int) (i : Nat) (X : MSt β), r.length < f → (∀ c ∈ r, B c) → X.place = 6 → X.size ≤ E.e2 → X.text = [] → ∀ (n : Nat) (e : Int), scanI nx i r 0 = (n, e) →
    (0 ≤ beyM E.e1 E.e2 f (r.take (n - i)) X.size X.lines → (X.size : Int) ≤ beyM E.e1 E.e2 f (r.take (n - i)) X.size X.lines ∧ Stops E X r i (i + ((beyM E.e1 E.e2 f (r.take (n - i)) X.size X.lines).toNat - X.size)) 5) ∧
    (beyM E.e1 E.e2 f (r.take (n - i)) X.size X.lines < 0 → e ≠ 0 → Stops E X r i n e) ∧
    (beyM E.e1 E.e2 f (r.take (n - i)) X.size X.lines < 0 → e = 0 → ∃ (ls : List (List Int)) (st' : MSt β), r.take (n - i) = ls.flatMap (· ++ [13, 10]) ++ [13, 10] ∧ (∀ l ∈ ls, l ≠ [] ∧ ∀ c ∈ l, c ≠ 13 ∧ c ≠ 10) ∧ mrun E X r i = (st', n, 0) ∧ st'.data = X.data ∧ st'.fields = X.fields ++ ls.map E.pf ∧ st'.place = 11)
  | 0, r, i, X, hf, _, _, _, _, n, e, _ => by omega
  | f + 1, [], i, X, hf, hB, hp, hz, ht, n, e, hs => by
    cases hs
    have hb : beyM E.e1 E.e2 (f + 1) (([] : List Int).take (i - i)) X.size X.lines = -1 := by rw [beyM]; simp
    rw [hb]
    exact ⟨fun h => by omega, fun _ _ => ⟨X, rfl, rfl⟩, fun _ h => by cases h⟩
  | f + 1, c :: r, i, X, hf, hB, hp, hz, ht, n, e, hs => by
    have hge := scanI_ge (nx := nx) (c :: r) i 0
    rw [hs] at hge
    dsimp only at hge
    have hn0 := N.n0 c (hB c List.mem_cons_self)
    by_cases h13 : c = 13
    · subst h13
      rw [if_pos rfl] at hn0
      rw [scanI_on hn0 (by decide)] at hs
      have hst : mstep E X 13 = .ok { X with place := 10 } := by rw [step6 hp, if_pos rfl]
      have hr : mrun E X (13 :: r) i = mrun E { X with place := 10 } r (i + 1) := run_on hst (by simp)
      have hge1 := scanI_ge (nx := nx) r (i + 1) 4
      rw [hs] at hge1
      dsimp only at hge1
      obtain ⟨m, hm⟩ : ∃ m, n - i = m + 1 := ⟨n - i - 1, by omega⟩
      have hb : beyM E.e1 E.e2 (f + 1) ((13 :: r).take (n - i)) X.size X.lines = -1 := by
        rw [hm, List.take_succ_cons, beyM, if_neg (by simp), if_pos (by rw [lfLine, if_neg (by decide)]; rfl)]
      rw [hb]
      refine ⟨fun h => by omega, fun _ he => ?_, fun _ he => ?_⟩
      · refine Stops.of hr rfl ?_
        cases r with
        | nil =>
          cases hs
          exact ⟨_, rfl, rfl⟩
        | cons d r =>
          have hn4 := N.n4 d (hB d (by simp))
          by_cases h10 : d = 10
          · rw [scanI_fin (by rw [hn4, h10]; rfl)] at hs
            cases hs
            exact absurd rfl he
          · rw [scanI_bad (x := 5) (by rw [hn4]; simp [h10])] at hs
            cases hs
            exact ⟨_, run_err (by rw [step10 rfl, if_pos h10]), rfl⟩
      · cases r with
        | nil => cases hs; cases he
        | cons d r =>
          have hn4 := N.n4 d (hB d (by simp))
          by_cases h10 : d = 10
          · rw [scanI_fin (by rw [hn4, h10]; rfl)] at hs
            cases hs
            subst h10
            refine ⟨[], { X with place := 11 }, ?_, by simp, ?_, rfl, by simp, rfl⟩
            · rw [show i + 1 + 1 - i = 2 by omega]
              simp
            · rw [hr, run_fin (x := { X with place := 11 }) (by rw [step10 rfl, if_neg (by simp)]) rfl]
          · rw [scanI_bad (x := 5) (by rw [hn4]; simp [h10])] at hs
            cases hs
            cases he
    · rw [if_neg h13] at hn0
      cases hk : E.tk c with
      | false =>
        rw [hk] at hn0
        rw [scanI_bad hn0] at hs
        cases hs
        have hb : beyM E.e1 E.e2 (f + 1) ((c :: r).take (i - i)) X.size X.lines = -1 := by rw [beyM]; simp
        rw [hb]
        refine ⟨fun h => by omega, fun _ _ => ⟨X, ?_, rfl⟩, fun _ h => by cases h⟩
        rw [run_err (by rw [step6 hp, if_neg h13, if_pos hk])]
      | true =>
        rw [hk] at hn0
        rw [scanI_on hn0 (by decide)] at hs
        have h10 : c ≠ 10 := by rintro rfl; rw [N.k10] at hk; cases hk
        have hge1 := scanI_ge (nx := nx) r (i + 1) 1
        rw [hs] at hge1
        dsimp only at hge1
        have htk : (c :: r).take (n - i) = c :: r.take (n - (i + 1)) := by
          obtain ⟨m, hm⟩ : ∃ m, n - i = m + 1 := ⟨n - i - 1, by omega⟩
          rw [hm, List.take_succ_cons]
          congr 2
          omega
        rw [htk]
        have hlf : lfLine (c :: r.take (n - (i + 1))) = (c :: (lfLine (r.take (n - (i + 1)))).1, (lfLine (r.take (n - (i + 1)))).2) := by rw [lfLine, if_neg h10]
        rw [beyM, if_neg (by simp), hlf, if_neg (by simpa using h13)]
        dsimp only
        by_cases hln : E.e1 < X.lines + 1
        · rw [if_pos hln]
          refine ⟨fun _ => ⟨Int.le_refl _, X, ?_, rfl⟩, fun h => by omega, fun h => by omega⟩
          rw [run_err (e := 5) (by rw [step6 hp, if_neg h13, hk, if_neg (by simp), if_pos (by omega)])]
          simp
        · rw [if_neg hln]
          by_cases hfull : E.e2 ≤ X.size
          · rw [if_pos (by simp only [List.length_cons]; omega)]
            refine ⟨fun _ => ⟨by omega, X, ?_, rfl⟩, fun h => by omega, fun h => by omega⟩
            rw [run_err (e := 5) (by rw [step6 hp, if_neg h13, hk, if_neg (by simp), if_neg (by omega)]; exact line_full hfull)]
            simp only [Int.toNat_natCast]
            rw [show i + (E.e2 - X.size) = i by omega]
          · have hst : mstep E X c = .ok { X with lines := X.lines + 1, place := 7, size := X.size + 1, text := X.text ++ [c] } := by
              rw [step6 hp, if_neg h13, hk, if_neg (by simp), if_neg (by omega)]
              exact line_on (s := { X with lines := X.lines + 1, place := 7 }) (by show X.size < E.e2; omega) (fun h => h10 h.1)
            have hr : mrun E X (c :: r) i = mrun E { X with lines := X.lines + 1, place := 7, size := X.size + 1, text := X.text ++ [c] } r (i + 1) := run_on hst (by simp)
            obtain ⟨ln, rest, hl, hc⟩ := line_run N r (i + 1) 1 { X with lines := X.lines + 1, place := 7, size := X.size + 1, text := X.text ++ [c] } (fun d hd => hB d (List.mem_cons_of_mem _ hd)) (.inl rfl) (by simp) (by show X.size + 1 ≤ E.e2; omega) n e hs
            rw [hl]
            dsimp only at hc ⊢
            rw [List.length_cons]
            rcases hc with ⟨h1, h2⟩ | ⟨h1, h2, h3, h4⟩ | ⟨h1, w, h2, h3, r', h4, h5, h6, h7⟩
            · rw [if_pos (by omega)]
              refine ⟨fun _ => ⟨by omega, Stops.of hr rfl ?_⟩, fun h => by omega, fun h => by omega⟩
              rw [Int.toNat_natCast, show i + (E.e2 - X.size) = i + 1 + (E.e2 - (X.size + 1)) by omega]
              exact h2
            · rw [if_neg (by omega), h3]
              have hb : ∀ z k, beyM E.e1 E.e2 f [] z k = -1 := by
                intro z k
                cases f with
                | zero => rfl
                | succ f => rw [beyM, if_pos rfl]
              rw [hb]
              exact ⟨fun h => by omega, fun _ _ => Stops.of hr rfl h4, fun _ h => absurd h h2⟩
            · rw [if_neg (by omega), h6]
              rw [if_neg (by decide)] at h2
              have hlen : r'.length < f := by
                have := congrArg List.length h4
                rw [List.length_append] at this
                simp only [List.length_cons] at hf
                omega
              have ih := sect_run N f r' (i + 1 + ln.length) { X with lines := X.lines + 1, place := 6, size := X.size + 1 + ln.length, text := [], fields := X.fields ++ [E.pf (X.text ++ [c] ++ ln.dropLast).dropLast] } hlen
                (fun d hd => hB d (List.mem_cons_of_mem _ (by rw [h4]; exact List.mem_append_right _ hd))) rfl h1 rfl n e h5
              obtain ⟨i1, i2, i3⟩ := ih
              dsimp only at i1 i2 i3
              have hr2 := hr.trans h7
              have hsz : X.size + (ln.length + 1) = X.size + 1 + ln.length := by omega
              rw [hsz]
              refine ⟨fun h => ?_, fun h he => Stops.of hr2 rfl (i2 h he), fun h he => ?_⟩
              · obtain ⟨j1, j2⟩ := i1 h
                refine ⟨by omega, Stops.of hr2 rfl ?_⟩
                have : ∀ q : Nat, X.size + 1 + ln.length ≤ q → i + (q - X.size) = i + 1 + ln.length + (q - (X.size + 1 + ln.length)) := fun q hq => by omega
                rw [this _ (by omega)]
                exact j2
              · obtain ⟨ls, st', j1, j2, j3, j4, j5, j6⟩ := i3 h he
                have hge2 := scanI_ge (nx := nx) r' (i + 1 + ln.length) 0
                rw [h5] at hge2
                dsimp only at hge2
                refine ⟨(c :: w) :: ls, st', ?_, ?_, hr2.trans j3, j4, ?_, j6⟩
                · rw [List.flatMap_cons, List.append_assoc, ← j1, h4, List.take_append, List.take_of_length_le (by omega), h2]
                  simp only [List.cons_append, List.append_assoc]
                  congr 4
                  rw [List.nil_append, List.nil_append, Nat.sub_sub]
                · intro l hl
                  rcases List.mem_cons.1 hl with rfl | hl
                  · refine ⟨by simp, fun d hd => ?_⟩
                    rcases List.mem_cons.1 hd with rfl | hd
                    · exact ⟨h13, h10⟩
                    · exact h3 d hd
                  · exact j2 l hl
                · rw [j5, ht, h2, List.map_cons]
                  have : (w ++ [13, 10]).dropLast = w ++ [13] := by
                    rw [show w ++ [13, 10] = (w ++ [13]) ++ [10] by simp, List.dropLast_concat]
                  rw [this]
                  simp only [List.nil_append, List.append_assoc, List.singleton_append]
                  rw [← List.cons_append, List.dropLast_concat]
end
def linesB : List Int → List (List Int)
  | [] => []
  | c :: r => if c = 10 then [10] :: linesB r else match linesB r with
    | [] => [[c]]
    | l :: ls => (c :: l) :: ls
theorem linesB_cons : ∀ (r : List Int), r ≠ [] → linesB r = (lfLine r).1 :: linesB (lfLine r).2
  | [], h => absurd rfl h
  | c :: r, _ => by
    rw [linesB, lfLine]
    by_cases hc : c = 10
    · rw [if_pos hc, if_pos hc]
    · rw [if_neg hc, if_neg hc]
      cases r with
      | nil => rfl
      | cons d r => rw [linesB_cons (d :: r) (by simp)]
def beyL (e1 e2 : Nat) : List (List Int) → Nat → Nat → Int
  | [], _, _ => -1
  | ln :: ls, z, k => if ln.getD 0 0 = 13 then -1 else if e1 < k + 1 then (z : Int) else if e2 < z + ln.length then (e2 : Int) else beyL e1 e2 ls (z + ln.length) (k + 1)
theorem beyM_L (e1 e2 : Nat) : ∀ (f : Nat) (r : List Int) (z k : Nat), r.length < f → beyM e1 e2 f r z k = beyL e1 e2 (linesB r) z k
  | 0, r, z, k, h => by omega
  | f + 1, r, z, k, h => by
    rw [beyM]
    by_cases h0 : r = []
    · rw [if_pos h0, h0]; rfl
    · have hlt := lf_snd_lt r h0
      rw [if_neg h0, linesB_cons r h0, beyL, beyM_L e1 e2 f (lfLine r).2 _ _ (by omega)]
end Go.Proofs.YtmmbpbgcobmifaaGreatDoorM
end
section
namespace Go.Proofs.YtmmbpbgcobmifaaGreatDoor.Pr
end Go.Proofs.YtmmbpbgcobmifaaGreatDoor.Pr
namespace Go.Proofs.YtmmbpbgcobmifaaGreatDoorH
open Go.RowKit Go.Proofs.YtmmbpbgcobmifaaGreatDoorW.PrintWords Go.Proofs.YtmmbpbgcobmifaaGreatDoorW.PrintLast Go.Proofs.YtmmbpbgcobmifaaGreatDoorW.PrintMore Go.Proofs.YtmmbpbgcobmifaaGreatDoor.Pr Go.Proofs.YtmmbpbgcobmifaaGreatDoorM
structure Good {β : Type} (E : MEnv β) : Prop where
  dg : ∀ c, E.dg c = digI c
  tx : ∀ c, E.tx c = textB c
  d59 : digI 59 < 0
  d13 : digI 13 < 0
  t59 : textB 59 = true
  t13 : textB 13 = false
  t10 : textB 10 = false
  k13 : E.tk 13 = false
  k10 : E.tk 10 = false
  k58 : E.tk 58 = false
section
variable {β : Type} {E : MEnv β}
def EndsSo (E : MEnv β) (st : MSt β) (s : List Int) (a : Nat) (x : Nat × Int) (D : List Int) : Prop := ∃ st', mrun E st (s.drop a) a = (st', x.1, x.2) ∧ st'.data = D
theorem drop_at {s : List Int} {a : Nat} (h : a < s.length) : s.drop a = s.getD a 0 :: s.drop (a + 1) := by
  rw [List.drop_eq_getElem_cons h, List.getD_eq_getElem?_getD, List.getElem?_eq_getElem h]; rfl
theorem EndsSo.more {st : MSt β} {s : List Int} {a : Nat} (h : ¬ a < s.length) (ha : a ≤ s.length) : EndsSo E st s a (a, 4) st.data := by
  refine ⟨st, ?_, rfl⟩
  rw [List.drop_eq_nil_of_le (by omega), mrun]
theorem EndsSo.err {st : MSt β} {s : List Int} {a : Nat} {e : Int} (h : a < s.length) (hs : mstep E st (s.getD a 0) = .error e) : EndsSo E st s a (a, e) st.data := by
  refine ⟨st, ?_, rfl⟩
  rw [drop_at h, run_err hs]
theorem EndsSo.of {st st' : MSt β} {s : List Int} {a a' : Nat} {x : Nat × Int} {D : List Int} (h : mrun E st (s.drop a) a = mrun E st' (s.drop a') a') (k : EndsSo E st' s a' x D) : EndsSo E st s a x D := by
  obtain ⟨q, hq, hd⟩ := k
  exact ⟨q, h.trans hq, hd⟩
theorem size_run (G : Good E) (s : List Int) : ∀ (f a n g : Nat) (st : MSt β), s.length - a < f → a ≤ s.length → g ≤ 16 → st.place = 0 → st.n = n → st.count = g →
    match sizeL f s a n g with
    | .error x => EndsSo E st s a x st.data
    | .ok (m, a1) => ∃ g', 0 < g' ∧ a1 < s.length ∧ digI (s.getD a1 0) < 0 ∧ mrun E st (s.drop a) a = mrun E { st with n := m, count := g' } (s.drop a1) a1
  | 0, a, n, g, st, hf, _, _, _, _, _ => by omega
  | f + 1, a, n, g, st, hf, ha, hg, hp, hn, hc => by
    rw [sizeL]
    by_cases h : a < s.length
    · rw [if_pos h]
      by_cases hd : digI (s.getD a 0) < 0
      · rw [if_pos hd]
        by_cases h0 : 0 < g
        · rw [if_pos h0]
          refine ⟨g, h0, h, hd, ?_⟩
          subst hn hc
          rfl
        · rw [if_neg h0]
          exact EndsSo.err h (by rw [step0 hp, G.dg, if_neg (by omega), if_pos (.inl (by omega))])
      · rw [if_neg hd]
        by_cases hle : g < 16 ∧ n ≤ (4611686018427387903 - (digI (s.getD a 0)).toNat) / 16
        · rw [if_pos hle]
          have hst : mstep E st (s.getD a 0) = .ok { st with n := 16 * n + (digI (s.getD a 0)).toNat, count := g + 1 } := by
            rw [step0 hp, G.dg, if_pos (by omega), if_neg (by omega), hn, hc]
          have ih := size_run G s f (a + 1) (16 * n + (digI (s.getD a 0)).toNat) (g + 1) { st with n := 16 * n + (digI (s.getD a 0)).toNat, count := g + 1 } (by omega) (by omega) (by omega) hp rfl rfl
          have hr : mrun E st (s.drop a) a = mrun E { st with n := 16 * n + (digI (s.getD a 0)).toNat, count := g + 1 } (s.drop (a + 1)) (a + 1) := by
            rw [drop_at h, run_on hst (by show st.place ≠ 11; omega)]
          cases hq : sizeL f s (a + 1) (16 * n + (digI (s.getD a 0)).toNat) (g + 1) with
          | error x =>
            rw [hq] at ih
            exact EndsSo.of hr ih
          | ok x =>
            obtain ⟨m, a1⟩ := x
            rw [hq] at ih
            obtain ⟨g', h1, h2, h3, h4⟩ := ih
            exact ⟨g', h1, h2, h3, hr.trans h4⟩
        · rw [if_neg hle]
          exact EndsSo.err h (by rw [step0 hp, G.dg, if_pos (by omega), if_pos (by omega)])
    · rw [if_neg h]
      exact EndsSo.more h ha
theorem end_run {s : List Int} {a : Nat} {st : MSt β} (ha : a ≤ s.length) (h13 : mstep E st 13 = .ok { st with place := 2 }) (hne : a < s.length → s.getD a 0 ≠ 13 → mstep E st (s.getD a 0) = .error 2) :
    match endM s a with
    | .error x => EndsSo E st s a x st.data
    | .ok (_, a3) => a3 ≤ s.length ∧ mrun E st (s.drop a) a = mrun E { st with place := if 0 < st.n then 3 else 6 } (s.drop a3) a3 := by
  unfold endM byteM
  by_cases h : a < s.length
  · rw [if_pos h]
    by_cases hc : s.getD a 0 = 13
    · rw [if_pos hc]
      dsimp only
      have hr : mrun E st (s.drop a) a = mrun E { st with place := 2 } (s.drop (a + 1)) (a + 1) := by
        rw [drop_at h, hc, run_on h13 (by simp)]
      by_cases h1 : a + 1 < s.length
      · rw [if_pos h1]
        by_cases hc1 : s.getD (a + 1) 0 = 10
        · rw [if_pos hc1]
          refine ⟨by omega, ?_⟩
          rw [hr, drop_at h1, hc1]
          by_cases hn : 0 < st.n
          · rw [if_pos hn, run_on (x := { st with place := 3 }) (by rw [step2 rfl, if_neg (by simp), if_pos hn]) (by simp)]
          · rw [if_neg hn, run_on (x := { st with place := 6 }) (by rw [step2 rfl, if_neg (by simp), if_neg hn]) (by simp)]
        · rw [if_neg hc1]
          exact EndsSo.of hr (EndsSo.err (st := { st with place := 2 }) h1 (by rw [step2 rfl, if_pos hc1]))
      · rw [if_neg h1]
        exact EndsSo.of hr (EndsSo.more (st := { st with place := 2 }) h1 (by omega))
    · rw [if_neg hc]
      exact EndsSo.err h (hne h hc)
  · rw [if_neg h]
    exact EndsSo.more h ha
theorem ext_run (G : Good E) (s : List Int) : ∀ (f a n : Nat) (st : MSt β), s.length - a < f → a ≤ s.length → st.place = 1 → st.count = n →
    match extL f s (E.e0 : Int) a (n + 1) with
    | .error x => EndsSo E st s a x st.data
    | .ok (_, a2) => a2 ≤ s.length ∧ textB (s.getD a2 0) = false ∧ ∃ k, mrun E st (s.drop a) a = mrun E { st with count := k } (s.drop a2) a2
  | 0, a, n, st, hf, _, _, _ => by omega
  | f + 1, a, n, st, hf, ha, hp, hc => by
    rw [extL]
    by_cases h : a < s.length
    · rw [if_pos h]
      by_cases ht : textB (s.getD a 0) = true
      · rw [if_pos ht]
        have hn13 : ¬ s.getD a 0 = 13 := by
          intro e; rw [e, G.t13] at ht; cases ht
        by_cases hle : ((n + 1 : Nat) : Int) ≤ (E.e0 : Int)
        · rw [if_pos hle]
          have hst : mstep E st (s.getD a 0) = .ok { st with count := n + 1 } := by
            rw [step1 hp, G.tx, if_neg hn13, if_neg (by rw [ht]; simp), if_neg (by omega), hc]
          have hr : mrun E st (s.drop a) a = mrun E { st with count := n + 1 } (s.drop (a + 1)) (a + 1) := by
            rw [drop_at h, run_on hst (by show st.place ≠ 11; omega)]
          have ih := ext_run G s f (a + 1) (n + 1) { st with count := n + 1 } (by omega) (by omega) hp rfl
          cases hq : extL f s (E.e0 : Int) (a + 1) (n + 1 + 1) with
          | error x =>
            rw [hq] at ih
            exact EndsSo.of hr ih
          | ok x =>
            obtain ⟨u, a1⟩ := x
            rw [hq] at ih
            obtain ⟨h1, h2, k, h3⟩ := ih
            exact ⟨h1, h2, k, hr.trans h3⟩
        · rw [if_neg hle]
          exact EndsSo.err h (by rw [step1 hp, G.tx, if_neg hn13, if_neg (by rw [ht]; simp), if_pos (by omega)])
      · rw [if_neg ht]
        exact ⟨ha, by simpa using ht, st.count, rfl⟩
    · rw [if_neg h]
      exact EndsSo.more h ha
theorem sized_run (G : Good E) (s : List Int) (a : Nat) (st : MSt β) (ha : a < s.length) (hd : digI (s.getD a 0) < 0) (hp : st.place = 0) (hg : 0 < st.count) :
    match extM s (E.e0 : Int) a with
    | .error x => EndsSo E st s a x st.data
    | .ok (_, a2) => match endM s a2 with
      | .error x => EndsSo E st s a x st.data
      | .ok (_, a3) => a3 ≤ s.length ∧ ∃ k, mrun E st (s.drop a) a = mrun E { st with place := if 0 < st.n then 3 else 6, count := k } (s.drop a3) a3 := by
  have h13 : mstep E st 13 = .ok { st with place := 2 } := by
    rw [step0 hp, G.dg, if_neg (by have := G.d13; omega), if_neg (by omega), if_pos rfl]
  unfold extM
  rw [if_pos ha]
  by_cases h59 : s.getD a 0 = 59
  · rw [if_pos h59]
    have hex : extL (s.length - a + 1) s (E.e0 : Int) a 1 = if ((1 : Nat) : Int) ≤ (E.e0 : Int) then extL (s.length - a) s (E.e0 : Int) (a + 1) (1 + 1) else .error (a, 5) := by
      rw [extL, if_pos ha, if_pos (by rw [h59]; exact G.t59)]
    rw [hex]
    by_cases h1 : ((1 : Nat) : Int) ≤ (E.e0 : Int)
    · rw [if_pos h1]
      have hst : mstep E st (s.getD a 0) = .ok { st with place := 1, count := 1 } := by
        rw [step0 hp, G.dg, if_neg (by omega), if_neg (by omega), if_neg (by omega), if_neg (by omega)]
      have hr : mrun E st (s.drop a) a = mrun E { st with place := 1, count := 1 } (s.drop (a + 1)) (a + 1) := by
        rw [drop_at ha, run_on hst (by simp)]
      have ih := ext_run G s (s.length - a) (a + 1) 1 { st with place := 1, count := 1 } (by omega) (by omega) rfl rfl
      cases hq : extL (s.length - a) s (E.e0 : Int) (a + 1) (1 + 1) with
      | error x =>
        rw [hq] at ih
        exact EndsSo.of hr ih
      | ok x =>
        obtain ⟨u, a2⟩ := x
        rw [hq] at ih
        obtain ⟨l1, l2, k, l3⟩ := ih
        have he := end_run (E := E) (s := s) (a := a2) (st := { st with place := 1, count := k }) l1 (by rw [step1 rfl, if_pos rfl]) (fun _ hne => by rw [step1 rfl, if_neg hne, G.tx, if_pos l2])
        dsimp only
        cases hq2 : endM s a2 with
        | error x =>
          rw [hq2] at he
          exact EndsSo.of (hr.trans l3) he
        | ok x =>
          obtain ⟨u, a3⟩ := x
          rw [hq2] at he
          exact ⟨he.1, k, (hr.trans l3).trans he.2⟩
    · rw [if_neg h1]
      exact EndsSo.err ha (by rw [step0 hp, G.dg, if_neg (by omega), if_neg (by omega), if_neg (by omega), if_pos (by omega)])
  · rw [if_neg h59]
    have he := end_run (s := s) (a := a) (st := st) (Nat.le_of_lt ha) h13 (fun _ hne => by rw [step0 hp, G.dg, if_neg (by omega), if_pos (.inr ⟨h59, hne⟩)])
    dsimp only
    cases hq2 : endM s a with
    | error x =>
      rw [hq2] at he
      exact he
    | ok x =>
      obtain ⟨u, a3⟩ := x
      rw [hq2] at he
      exact ⟨he.1, st.count, he.2⟩
theorem tail_run {s : List Int} {a : Nat} {st : MSt β} (ha : a ≤ s.length) (hp : st.place = 4) :
    match endM s a with
    | .error x => EndsSo E st s a x st.data
    | .ok (_, a3) => a3 ≤ s.length ∧ mrun E st (s.drop a) a = mrun E { st with place := 0, count := 0 } (s.drop a3) a3 := by
  unfold endM byteM
  by_cases h : a < s.length
  · rw [if_pos h]
    by_cases hc : s.getD a 0 = 13
    · rw [if_pos hc]
      dsimp only
      have hr : mrun E st (s.drop a) a = mrun E { st with place := 5 } (s.drop (a + 1)) (a + 1) := by
        rw [drop_at h, hc, run_on (by rw [step4 hp, if_neg (by simp)]) (by simp)]
      by_cases h1 : a + 1 < s.length
      · rw [if_pos h1]
        by_cases hc1 : s.getD (a + 1) 0 = 10
        · rw [if_pos hc1]
          refine ⟨by omega, ?_⟩
          rw [hr, drop_at h1, hc1, run_on (x := { st with place := 0, count := 0 }) (by rw [step5 rfl, if_neg (by simp)]) (by simp)]
        · rw [if_neg hc1]
          exact EndsSo.of hr (EndsSo.err (st := { st with place := 5 }) h1 (by rw [step5 rfl, if_pos hc1]))
      · rw [if_neg h1]
        exact EndsSo.of hr (EndsSo.more (st := { st with place := 5 }) h1 (by omega))
    · rw [if_neg hc]
      exact EndsSo.err h (by rw [step4 hp, if_pos hc])
  · rw [if_neg h]
    exact EndsSo.more h ha
theorem chunk_run (G : Good E) (s : List Int) (a : Nat) (st : MSt β) (ha : a ≤ s.length) (hp : st.place = 0) (hn : st.n = 0) (hc : st.count = 0) :
    match chunkM s (E.e0 : Int) a with
    | (.error x, d) => EndsSo E st s a x (st.data ++ d)
    | (.ok (true, a1), d) => a1 ≤ s.length ∧ mrun E st (s.drop a) a = mrun E { st with data := st.data ++ d } (s.drop a1) a1
    | (.ok (false, a1), d) => a1 ≤ s.length ∧ d = [] ∧ ∃ k, mrun E st (s.drop a) a = mrun E { st with place := 6, count := k } (s.drop a1) a1 := by
  have h1 := size_run G s (s.length - a + 1) a 0 0 st (by omega) ha (by omega) hp hn hc
  unfold chunkM sizeM
  cases hq1 : sizeL (s.length - a + 1) s a 0 0 with
  | error x =>
    rw [hq1] at h1
    dsimp only at h1 ⊢
    rw [List.append_nil]
    exact h1
  | ok x =>
    obtain ⟨m, a1⟩ := x
    rw [hq1] at h1
    obtain ⟨g', l1, l2, l3, l4⟩ := h1
    have h2 := sized_run G s a1 { st with n := m, count := g' } l2 l3 hp l1
    dsimp only
    cases hq2 : extM s (E.e0 : Int) a1 with
    | error x =>
      rw [hq2] at h2
      dsimp only at h2 ⊢
      rw [List.append_nil]
      exact EndsSo.of l4 h2
    | ok x =>
      obtain ⟨u, a2⟩ := x
      rw [hq2] at h2
      dsimp only at h2 ⊢
      cases hq3 : endM s a2 with
      | error x =>
        rw [hq3] at h2
        dsimp only at h2 ⊢
        rw [List.append_nil]
        exact EndsSo.of l4 h2
      | ok x =>
        obtain ⟨u, a3⟩ := x
        rw [hq3] at h2
        dsimp only at h2 ⊢
        obtain ⟨l5, k, l6⟩ := h2
        by_cases hm : m = 0
        · rw [if_pos hm]
          subst hm
          refine ⟨l5, rfl, k, ?_⟩
          rw [l4, l6, if_neg (by omega), hn]
        · rw [if_neg hm]
          rw [if_pos (by omega)] at l6
          obtain ⟨m', rfl⟩ : ∃ q, m = q + 1 := ⟨m - 1, by omega⟩
          have hd := run_data (E := E) m' (s.drop a3) a3 { st with place := 3, n := m' + 1, count := k } rfl rfl
          rw [List.length_drop] at hd
          by_cases hle : m' + 1 ≤ s.length - a3
          · rw [if_pos hle] at hd ⊢
            rw [List.drop_drop] at hd
            unfold tailM
            have ht := tail_run (E := E) (s := s) (a := a3 + (m' + 1)) (st := { st with place := 4, n := 0, count := k, data := st.data ++ (s.drop a3).take (m' + 1) }) (by omega) rfl
            have hL : (s.take (a3 + (m' + 1))).drop a3 = (s.drop a3).take (m' + 1) := by
              rw [List.drop_take]
              congr 1
              omega
            cases hq4 : endM s (a3 + (m' + 1)) with
            | error x =>
              rw [hq4] at ht
              dsimp only
              rw [hL]
              exact EndsSo.of (l4.trans (l6.trans hd)) ht
            | ok x =>
              obtain ⟨u, a4⟩ := x
              rw [hq4] at ht
              dsimp only
              rw [hL]
              refine ⟨ht.1, (l4.trans (l6.trans hd)).trans (ht.2.trans ?_)⟩
              cases st
              simp only at hp hn hc ⊢
              subst hp hn hc
              rfl
          · rw [if_neg hle] at hd ⊢
            refine ⟨_, (l4.trans (l6.trans hd)).trans (Prod.ext rfl (Prod.ext (?_ : a3 + (s.length - a3) = s.length) rfl)), rfl⟩
            omega
theorem chunks_run (G : Good E) (s : List Int) : ∀ (f a : Nat) (st : MSt β), s.length - a < f → a ≤ s.length → st.place = 0 → st.n = 0 → st.count = 0 →
    (∀ (q : Nat) (x : Bool) (a1 : Nat), q ≤ s.length → (chunkM s (E.e0 : Int) q).1 = .ok (x, a1) → q < a1) →
    match chunksM f s (E.e0 : Int) a st.data with
    | (.error x, D) => EndsSo E st s a x D
    | (.ok (_, a1), D) => a1 ≤ s.length ∧ ∃ k, mrun E st (s.drop a) a = mrun E { st with place := 6, count := k, data := D } (s.drop a1) a1
  | 0, a, st, hf, _, _, _, _, _ => by omega
  | f + 1, a, st, hf, ha, hp, hn, hc, hgt => by
    have h := chunk_run G s a st ha hp hn hc
    have hg := fun x a1 => hgt a x a1 ha
    rw [chunksM]
    generalize chunkM s (E.e0 : Int) a = q at *
    obtain ⟨m, d⟩ := q
    rcases m with x | ⟨x, a1⟩
    · exact h
    · cases x with
      | true =>
        have hlt := hg true a1 rfl
        have ih := chunks_run G s f a1 { st with data := st.data ++ d } (by omega) h.1 hp hn hc hgt
        dsimp only at ih ⊢
        generalize chunksM f s (E.e0 : Int) a1 (st.data ++ d) = r at *
        obtain ⟨m2, D⟩ := r
        rcases m2 with x | ⟨x, a2⟩
        · exact EndsSo.of h.2 ih
        · obtain ⟨l1, k, l2⟩ := ih
          exact ⟨l1, k, h.2.trans l2⟩
      | false =>
        obtain ⟨l1, l2, k, l3⟩ := h
        subst l2
        dsimp only
        rw [List.append_nil]
        exact ⟨l1, k, l3⟩
end
end Go.Proofs.YtmmbpbgcobmifaaGreatDoorH
end
section
namespace Go.Proofs.YtmmbpbgcobmifaaGreatDoorH
open Go.RowKit Go.Proofs.YtmmbpbgcobmifaaGreatDoorW.PrintWords Go.Proofs.YtmmbpbgcobmifaaGreatDoorW.PrintLast Go.Proofs.YtmmbpbgcobmifaaGreatDoorW.PrintMore
theorem TabOk.lies {w A C : World} {K : Nat → Prop} (hw : TabOk w) (hA : Lies (fun k => k < w.heap.size) w A) (hK : ∀ k, k < w.heap.size → K k) (h : Lies K A C) : TabOk C := by
  have hc : ∀ {p : Addr} {v : Value}, w.cell? p = some v → C.cell? p = some v := fun {p v} hp =>
    h.cell (hK p.block (World.block_lt_of_cell? w p hp)) (hA.cell (World.block_lt_of_cell? w p hp) hp)
  refine ⟨hc hw.c0, hc hw.c1, hc hw.c2, hc hw.c3, hc hw.c4, hc hw.c5, ?_⟩
  obtain ⟨m, hm⟩ := hw.mx
  exact ⟨m, hc hm⟩
end Go.Proofs.YtmmbpbgcobmifaaGreatDoorH
end
section
namespace Go.Proofs.YtmmbpbgcobmifaaGreatDoorH
open Go Go.RowKit Go.Shelf Go.Proofs.YtmmbpbgcobmifaaGreatDoorW.PrintWords Go.Proofs.YtmmbpbgcobmifaaGreatDoorW.PrintLast Go.Proofs.YtmmbpbgcobmifaaGreatDoorW.PrintMore Go.Proofs.YtmmbpbgcobmifaaGreatDoorM
attribute [local go_sem] Oper.semAt_some
theorem indexByte_C (P : Program) (w : World) (ad : Addr) (c : Nat) (xs : List Int) (h : ∀ j x, xs[j]? = some x → w.cell? (ad.add j) = some (.int .u8 x)) (cv : Int) :
    (Extern.BytealgIndexByte.indexByte #[.slice (some ad) xs.length c, .int .u8 cv]).run P w = .ok (.int .i64 (Lib.indexByte (Lib.bytesOf xs) cv.toNat.toUInt8)) w := by
  have hl := Lib.run_loadBytesX (P := P) w xs ad .empty h
  have hs := Lib.run_indexByteString (P := P) ⟨(Lib.bytesOf xs).toArray⟩ cv w
  have he : (⟨ByteArray.empty.data ++ (Lib.bytesOf xs).toArray⟩ : ByteArray) = ⟨(Lib.bytesOf xs).toArray⟩ := by
    apply ByteArray.ext
    show (#[] : Array UInt8) ++ (Lib.bytesOf xs).toArray = (Lib.bytesOf xs).toArray
    simp
  rw [he] at hl
  change Sem.run P (do
    let b ← Extern.Bytes.bytesOf (.slice (some ad) xs.length c)
    let c ← Extern.Bytes.asByte (.int .u8 cv)
    match (List.range b.size).find? fun i => b[i]! == c with
    | some i => pure (goInt i)
    | none => pure (goInt (-1))) w = _
  change Sem.run P (do
    let b ← Extern.Bytes.bytesOf (.string ⟨(Lib.bytesOf xs).toArray⟩)
    let c ← Extern.Bytes.asByte (.int .u8 cv)
    match (List.range b.size).find? fun i => b[i]! == c with
    | some i => pure (goInt i)
    | none => pure (goInt (-1))) w = _ at hs
  simp only [Extern.Bytes.bytesOf, Sem.run_bind, Sem.run_pure, hl, Result.andThen] at hs ⊢
  exact hs
theorem C_u8 {w : World} {A : Option Addr} {n : Nat} {xs : List Int} (h : Kd.C (Kd.int .u8) w A n xs) (hp : 0 < n) : ∃ ad, A = some ad ∧ n = xs.length ∧ ∀ j x, xs[j]? = some x → w.cell? (ad.add j) = some (.int .u8 x) := by
  obtain ⟨h1, _, h3⟩ := h
  obtain ⟨ad, e, hc⟩ := h3 hp
  refine ⟨ad, e, h1.symm, fun j x hj => ?_⟩
  obtain ⟨cs, _, hK, hcs⟩ := hc j x hj
  have hK : cs = [.int .u8 x] := hK
  have := hcs 0 (.int .u8 x) (by rw [hK]; rfl)
  rwa [show j * (Kd.int .u8).sz + 0 = j by show j * 1 + 0 = j; omega] at this
theorem C_lies {K : Nat → Prop} {w W : World} {A : Option Addr} {n : Nat} {xs : List Int} (h : Kd.C (Kd.int .u8) w A n xs) (hl : Lies K w W) (hK : ∀ k, k < w.heap.size → K k) : Kd.C (Kd.int .u8) W A n xs := by
  refine ⟨h.1, h.2.1, fun hp => ?_⟩
  obtain ⟨ad, e, hc⟩ := h.2.2 hp
  refine ⟨ad, e, fun j p hj => ?_⟩
  obtain ⟨cs, h1, h2, h3⟩ := hc j p hj
  exact ⟨cs, h1, h2, fun i u hu => hl.cell (hK _ (World.block_lt_of_cell? _ _ (h3 i u hu))) (h3 i u hu)⟩
set_option maxRecDepth 100000 in
theorem bytesIndexByte_calls (w : World) (A : Option Addr) (n c : Nat) (xs : List Int) (h : Kd.C (Kd.int .u8) w A n xs) (hp : 0 < n) (cv : Int) :
    Calls Tryz.prog 82 #[.slice A n c, .int .u8 cv] w fun e w' => e = .returned (.int .i64 (Lib.indexByte (Lib.bytesOf xs) cv.toNat.toUInt8)) ∧ w' = w := by
  obtain ⟨ad, rfl, rfl, hc⟩ := C_u8 h hp
  go_enter Tryz.func82, Tryz.ntmps82
  go_wp2
  rw [run_callFunc_extern Tryz.func96 (by kernel_rfl) (by kernel_rfl) (by kernel_rfl) (e := Extern.BytealgIndexByte.indexByte) (by kernel_rfl), indexByte_C Tryz.prog w ad c xs hc cv]
  simp only [Result.andThen]
  rw [Oper.upon_value]
  go_wp2
  go_ret
  exact ⟨rfl, rfl⟩
theorem index_lf : ∀ (xs : List Int), (∀ x ∈ xs, 0 ≤ x ∧ x ≤ 255) →
    (Lib.indexByte (Lib.bytesOf xs) 10 = -1 ∧ lfLine xs = (xs, [])) ∨ ∃ i : Nat, Lib.indexByte (Lib.bytesOf xs) 10 = (i : Int) ∧ i < xs.length ∧ lfLine xs = (xs.take (i + 1), xs.drop (i + 1))
  | [], _ => .inl ⟨rfl, rfl⟩
  | c :: r, hb => by
    have hc := hb c List.mem_cons_self
    have ih := index_lf r (fun x hx => hb x (List.mem_cons_of_mem _ hx))
    have e : Lib.bytesOf (c :: r) = UInt8.ofNat c.toNat :: Lib.bytesOf r := rfl
    rw [e, Lib.indexByte, lfLine]
    by_cases h10 : c = 10
    · subst h10
      refine .inr ⟨0, ?_, by simp, by simp⟩
      rw [if_pos (by decide)]
      rfl
    · have hne : (UInt8.ofNat c.toNat == 10) = false := by
        rw [beq_eq_false_iff_ne]
        intro h
        have := congrArg UInt8.toNat h
        rw [UInt8.toNat_ofNat'] at this
        have h2 : (10 : UInt8).toNat = 10 := rfl
        omega
      rw [hne, if_neg (by simp), if_neg h10]
      rcases ih with ⟨h1, h2⟩ | ⟨i, h1, h2, h3⟩
      · left
        rw [h1, h2, if_pos (by decide)]
        exact ⟨rfl, rfl⟩
      · right
        refine ⟨i + 1, ?_, by simp only [List.length_cons]; omega, ?_⟩
        · rw [h1, if_neg (by rw [beq_iff_eq]; omega)]
          omega
        · rw [h3]; rfl
theorem bytesLines_calls (A : Option Addr) (n c : Nat) (w : World) :
    Calls Tryz.prog 65 #[.slice A n c] w fun e w' => e = .returned (.func (.func 81) #[] #[.pointer (some ⟨w.heap.size, 0, none⟩)]) ∧ w' = w.alloc (.cells #[.slice A n c] 25) := by
  go_enter Tryz.func65, Tryz.ntmps65
  go_wp2
  go_ret
  exact ⟨rfl, rfl⟩
def From (A : Option Addr) (r : List Int) (x : Option Addr × List Int) : Prop := ∀ W, Kd.C (Kd.int .u8) W A r.length r → Kd.C (Kd.int .u8) W x.1 x.2.length x.2
def encB (x : Option Addr × List Int) : Array Value := #[.slice x.1 x.2.length x.2.length]
def lenOf (W : World) (b : Nat) : Nat := match W.cell? ⟨b, 0, none⟩ with | some (.slice _ n _) => n | _ => 0
theorem lenOf_box {W : World} {b : Nat} {t : TypeId} {A : Option Addr} {n c : Nat} (h : Boxed W b t (.slice A n c)) : lenOf W b = n := by
  unfold lenOf
  rw [h.cell]
def Kz1 (n b : Nat) (k : Nat) : Prop := k < n ∨ k = b
def SpB (A : Option Addr) (r : List Int) (pre : List (Option Addr × List Int)) : Prop := pre.map Prod.snd <+: linesB r ∧ ∀ x ∈ pre, From A r x
set_option maxRecDepth 100000 in
set_option maxHeartbeats 4000000 in
theorem blines_own (n : Nat) (hn : 1 ≤ n) (Bs : Nat) (A : Option Addr) (c : Nat) (r : List Int) (hr : ∀ x ∈ r, 0 ≤ x ∧ x ≤ 255) (hrl : r.length ≤ 1073741824) (hrc : r.length ≤ c) (w : World) (hC : Kd.C (Kd.int .u8) w A r.length r) (W0 : World) (hw0 : Lies (fun k => k < w.heap.size) w W0)
    (hb0 : Boxed W0 Bs 25 (.slice A r.length c)) (hBs : w.heap.size ≤ Bs) :
    SeqO Fence.wide n Tryz.prog 81 #[.pointer (some ⟨Bs, 0, none⟩)] encB (Kz1 w.heap.size Bs) (fun k => k = Bs) (fun ys => ys.map Prod.snd = linesB r ∧ ∀ x ∈ ys, From A r x) (SpB A r) W0 := by
  intro l J Jx g0 W hW hJ hJx hg0 hY h0
  have hmx : Tryz.prog.follows .mixedOrders = true := by kernel_rfl
  have hw1 : Lies (fun k => k < w.heap.size) w W := hw0.trans (Lies.below hW)
  have hb : Boxed W Bs 25 (.slice A r.length c) := (hW.block _ hb0.lt).trans hb0
  have l2 := hb.lt
  have l4 := hw1.size
  clear hW hb0 hw0
  have HC := Aside0.mk hC
  have HR := Aside0.mk hr
  have HF0 : From A r (A, r) := fun _ h => h
  clear hC hr
  refine callsIn_of_wp Tryz.func81 rfl trivial ?_ rfl
  simp only [Tryz.ntmps81, List.size_toArray, List.length_cons, List.length_nil, Nat.reduceAdd, Nat.reduceSub, Array.replicate_succ, Array.replicate_zero, List.push_toArray, List.append_toArray, List.nil_append, List.cons_append]
  gi_wp2
  gi_loopw [3] (fun v3 wr => ∃ (A' : Option Addr) (c' : Nat) (t : List Int) (pre : List (Option Addr × List Int)) (g : Option Nat), t.length ≤ r.length ∧ t.length ≤ c' ∧ Aside0 (∀ x ∈ t, 0 ≤ x ∧ x ≤ 255) ∧ Aside0 (From A r (A', t)) ∧ Aside0 (∀ x ∈ pre, From A r x) ∧ Aside0 (linesB r = pre.map Prod.snd ++ linesB t) ∧ Aside0 (J pre g wr) ∧ Aside0 (∀ q, g = some q → ¬ Kz1 w.heap.size Bs q) ∧ Aside0 (Lies (fun k => k < w.heap.size) W wr) ∧ Aside0 (Boxed wr Bs 25 (.slice A' t.length c')))
    (fun _ wr => lenOf wr Bs)
  case atStart => exact ⟨A, c, r, [], g0, Nat.le_refl _, hrc, HR, ⟨HF0⟩, ⟨fun x hx => absurd hx List.not_mem_nil⟩, ⟨rfl⟩, ⟨h0⟩, ⟨fun q e => (hg0 q e).1⟩, ⟨Lies.refl _ _⟩, ⟨hb⟩⟩
  case round =>
    obtain ⟨A', c', t, pre, g, htl, htc, htb, hfr, hpf, hE, hJs, hgq, hnx, hbx⟩ := hrel
    have hcs := hbx.out.cell
    by_cases hlt : 0 < t.length
    · have hCt := hfr.out wr (C_lies HC.out (hw1.trans hnx.out) (fun k hk => hk))
      have HCI := Aside0.mk (bytesIndexByte_calls wr A' t.length c' t hCt hlt 10)
      have hlt' : (0 : Int) < (t.length : Int) := by omega
      rw [show (10 : Int).toNat.toUInt8 = 10 from rfl] at HCI
      have hix := index_lf t htb.out
      generalize Lib.indexByte (Lib.bytesOf t) 10 = q at *
      have ht0 : t ≠ [] := by rintro rfl; simp at hlt
      have hlc := linesB_cons t ht0
      clear hCt
      have htu : Tryz.prog.underlying 25 = some (.slice 5) := Tryz.underlying25
      have hq : (Tryz.prog.info? 5).map (fun i => i.size) = some 1 := by kernel_rfl
      obtain ⟨ii, hii, hisz⟩ := Option.map_eq_some_iff.1 hq
      have hel : Tryz.prog.elem 25 = 5 := by simp [Program.elem, htu]
      have hu : Tryz.prog.underlying 25 = some (.slice (Tryz.prog.elem 25)) := by rw [hel]; exact htu
      rcases hix with ⟨rfl, hlf⟩ | ⟨i, rfl, hil, hlf⟩
      · rw [hlf] at hlc
        have HE2 := Aside0.mk (show linesB r = (pre ++ [(A', t)]).map Prod.snd ++ linesB [] by rw [hE.out, hlc, List.map_append, List.append_assoc]; rfl)
        have hs3 : ∀ W : World, (Instr.slice 25 (.slice A' t.length c') none (some (.int .i64 (t.length : Int))) (some (.int .i64 (t.length : Int)))).run Tryz.prog W = .ok (.slice A' t.length t.length) W := fun W => by
          rw [run_slice_hm W 25 A' t.length c' hu .i64 .i64 (t.length : Int) (t.length : Int) (by omega) (Int.le_refl _) (by omega), hel]
          simp only [Int.toNat_natCast]
          have ha : (A'.map fun x => x.add 0) = A' := by cases A' <;> simp [Addr.add]
          simp [sizeOf, typeInfo, hii, sliced, Result.andThen, ha]
        obtain ⟨W2, hW2⟩ : ∃ W2, wr.setCell ⟨Bs, 0, none⟩ (.slice none 0 0) = W2 := ⟨_, rfl⟩
        have hg2 : wr.grownBy W2 (some Bs) := by rw [← hW2]; exact grownBy_setCell' wr Bs _
        have hJ2 : J pre g W2 := hJ _ _ _ _ _ hJs.out hg2 (fun q e => .inr (by cases e; rfl))
        have HB2 := Aside0.mk (show Boxed W2 Bs 25 (.slice none ([] : List Int).length 0) by rw [← hW2]; exact hbx.out.set _)
        have HL2 := Aside0.mk (show Lies (fun k => k < w.heap.size) W W2 from hnx.out.trans (Lies.grown hg2 (fun q e h => by cases e; omega)))
        have HSP := Aside0.mk (show SpB A r (pre ++ [(A', t)]) from ⟨by rw [HE2.out]; exact ⟨[], by simp [linesB]⟩, fun y hy => by
          rcases List.mem_append.1 hy with hy | hy
          · exact hpf.out y hy
          · rcases List.mem_singleton.1 hy with rfl
            exact hfr.out⟩)
        obtain ⟨fn, tmps, assign, body, hy, hR⟩ := hY (n - 1) pre (A', t) g W2 hJ2 HSP.out
        dsimp only [encB] at hy
        have HHW2 := Aside0.mk hW2
        have hcf := hbx.out.frozen
        rw [← hW2] at hy hR
        have HR3 := Aside0.mk hR
        have HLS := Aside0.mk (fun (g' : Option Nat) (W3 : World) (h : Spares (fun k => W.heap.size ≤ k ∨ Kz1 w.heap.size Bs k) g g' W2 W3) =>
          show Lies (fun k => k < w.heap.size ∨ k = Bs) W2 W3 from h.lies (fun k hk _ => ⟨.inr hk, fun e => hgq.out k e.symm hk⟩))
        have HGS := Aside0.mk (fun (g' : Option Nat) (W3 : World) (h : Spares (fun k => W.heap.size ≤ k ∨ Kz1 w.heap.size Bs k) g g' W2 W3) =>
          show ∀ q, g' = some q → ¬ Kz1 w.heap.size Bs q from h.not (fun k hk => by have := HL2.out.size; unfold Kz1 at hk; rcases hk with hk | hk <;> omega) hgq.out)
        clear hR hJ2
        clear hlf hlc hW2 hg2
        gi_wp2
        refine ⟨trivial, ?_⟩
        refine (callsIn_wide.2 HCI.out).mono ?_
        rintro e w1 ⟨rfl, rfl⟩
        gi_wp2
        refine HR3.out.mono ?_
        rintro e W3 ⟨g', hsp, (⟨rfl, hJ3⟩ | ⟨rfl, hJx3⟩)⟩
        · have HJ3 := Aside0.mk hJ3
          rw [HHW2.out] at hsp
          have HS3 := Aside0.mk hsp
          clear hJ3 hsp
          have hl3 := HLS.out g' W3 HS3.out
          have HL3 := Aside0.mk (HL2.out.trans (hl3.imp (K' := fun k => k < w.heap.size) (fun k h => .inl h)))
          have HB3 := Aside0.mk (hl3.box (.inr rfl) HB2.out)
          have HZ := Aside0.mk (lenOf_box hbx.out)
          have HZ3 := Aside0.mk (lenOf_box HB3.out)
          clear hl3
          gi_wp2
          go_roundw
          case rel => exact ⟨none, 0, [], pre ++ [(A', t)], g', Nat.zero_le _, Nat.le_refl _, ⟨fun x hx => absurd hx List.not_mem_nil⟩, ⟨fun W _ => Kd.C_nil _ _⟩, ⟨HSP.out.2⟩, HE2, HJ3, ⟨HGS.out g' W3 HS3.out⟩, HL3, HB3⟩
          case measure => first | (rw [HZ.out, HZ3.out]; exact hlt) | (simp only [HZ.out, HZ3.out]; exact hlt)
        · gi_wp2
          refine bodyPost_ret (results_none rfl _ _ _) rfl ?_
          exact ⟨⟨_, rfl⟩, .inr ⟨_, g', HSP.out, hJx3⟩⟩
      · rw [hlf] at hlc
        dsimp only at hlc
        have hlen : (t.take (i + 1)).length = i + 1 := by rw [List.length_take]; omega
        have hdl : (t.drop (i + 1)).length = t.length - (i + 1) := List.length_drop
        have HE2 := Aside0.mk (show linesB r = (pre ++ [(A', t.take (i + 1))]).map Prod.snd ++ linesB (t.drop (i + 1)) by rw [hE.out, hlc, List.map_append, List.append_assoc]; rfl)
        have hs1 : ∀ W : World, (Instr.slice 25 (.slice A' t.length c') none (some (.int .i64 ((i : Int) + 1))) none).run Tryz.prog W = .ok (.slice A' (i + 1) c') W := fun W => by
          have := cut_to (P := Tryz.prog) 25 5 .i64 htu hii A' t.length c' ((i : Int) + 1) (by omega) (by omega) htc W
          rw [show ((i : Int) + 1).toNat = i + 1 by omega] at this
          exact this
        obtain ⟨A2, hA2⟩ : ∃ A2, (if c' = i + 1 then A' else A'.map (·.add ((i + 1) * 1))) = A2 := ⟨_, rfl⟩
        have hs2 : ∀ W : World, (Instr.slice 25 (.slice A' t.length c') (some (.int .i64 ((i : Int) + 1))) none none).run Tryz.prog W = .ok (.slice A2 (t.length - (i + 1)) (c' - (i + 1))) W := fun W => by
          have := cut_from (P := Tryz.prog) 25 5 .i64 htu hii 1 hisz A' t.length c' ((i : Int) + 1) (by omega) (by omega) W
          rw [show ((i : Int) + 1).toNat = i + 1 by omega, hA2] at this
          exact this
        have HF2 := Aside0.mk (show From A r (A2, t.drop (i + 1)) from fun W hW => by
          have := Kd.C_drop (m := i + 1) (c := c') (hfr.out W hW) (by dsimp only; omega) htc
          rw [← hA2]
          exact this)
        have HF1 := Aside0.mk (show From A r (A', t.take (i + 1)) from fun W hW => by
          have := Kd.C_take (m := i + 1) (hfr.out W hW) (by dsimp only; omega)
          exact this)
        have hs3 : ∀ W : World, (Instr.slice 25 (.slice A' (i + 1) c') none (some (.int .i64 ((i : Int) + 1))) (some (.int .i64 ((i : Int) + 1)))).run Tryz.prog W = .ok (.slice A' (i + 1) (i + 1)) W := fun W => by
          rw [run_slice_hm W 25 A' (i + 1) c' hu .i64 .i64 ((i : Int) + 1) ((i : Int) + 1) (by omega) (Int.le_refl _) (by omega), hel]
          rw [show ((i : Int) + 1).toNat = i + 1 by omega]
          have ha : (A'.map fun x => x.add 0) = A' := by cases A' <;> simp [Addr.add]
          simp [sizeOf, typeInfo, hii, sliced, Result.andThen, ha]
        obtain ⟨W2, hW2⟩ : ∃ W2, (wr.setCell ⟨Bs, 0, none⟩ (.slice A2 (t.length - (i + 1)) (c' - (i + 1)))).drew = W2 := ⟨_, rfl⟩
        have hg1 : wr.grownBy (wr.setCell ⟨Bs, 0, none⟩ (.slice A2 (t.length - (i + 1)) (c' - (i + 1)))) (some Bs) := grownBy_setCell' wr Bs _
        have hg2 : (wr.setCell ⟨Bs, 0, none⟩ (.slice A2 (t.length - (i + 1)) (c' - (i + 1)))).grownBy W2 none := by rw [← hW2]; exact ⟨rfl, rfl, rfl, Nat.le_refl _, fun _ _ _ => rfl⟩
        have hJ2 : J pre g W2 := hJ.step (hJ _ _ _ _ _ hJs.out hg1 (fun q e => .inr (by cases e; rfl))) hg2
        have HB2 := Aside0.mk (show Boxed W2 Bs 25 (.slice A2 (t.drop (i + 1)).length (c' - (i + 1))) by rw [← hW2, hdl]; exact (hbx.out.set (.slice A2 (t.length - (i + 1)) (c' - (i + 1))) : Boxed (wr.setCell ⟨Bs, 0, none⟩ (.slice A2 (t.length - (i + 1)) (c' - (i + 1)))) Bs 25 _))
        have HL2 := Aside0.mk (show Lies (fun k => k < w.heap.size) W W2 from hnx.out.trans ((Lies.grown hg1 (fun q e h => by cases e; omega)).trans (Lies.grown hg2 (fun q e => by cases e))))
        have HSP := Aside0.mk (show SpB A r (pre ++ [(A', t.take (i + 1))]) from ⟨by rw [HE2.out]; exact ⟨_, rfl⟩, fun y hy => by
          rcases List.mem_append.1 hy with hy | hy
          · exact hpf.out y hy
          · rcases List.mem_singleton.1 hy with rfl
            exact HF1.out⟩)
        obtain ⟨fn, tmps, assign, body, hy, hR⟩ := hY (n - 1) pre (A', t.take (i + 1)) g W2 hJ2 HSP.out
        dsimp only [encB] at hy
        rw [hlen] at hy
        have HHW2 := Aside0.mk hW2
        have hcf := hbx.out.frozen
        rw [← hW2] at hy hR
        have HR3 := Aside0.mk hR
        have HLS := Aside0.mk (fun (g' : Option Nat) (W3 : World) (h : Spares (fun k => W.heap.size ≤ k ∨ Kz1 w.heap.size Bs k) g g' W2 W3) =>
          show Lies (fun k => k < w.heap.size ∨ k = Bs) W2 W3 from h.lies (fun k hk _ => ⟨.inr hk, fun e => hgq.out k e.symm hk⟩))
        have HGS := Aside0.mk (fun (g' : Option Nat) (W3 : World) (h : Spares (fun k => W.heap.size ≤ k ∨ Kz1 w.heap.size Bs k) g g' W2 W3) =>
          show ∀ q, g' = some q → ¬ Kz1 w.heap.size Bs q from h.not (fun k hk => by have := HL2.out.size; unfold Kz1 at hk; rcases hk with hk | hk <;> omega) hgq.out)
        clear hR hJ2
        clear hlf hlc hW2 hg2 hg1 hA2
        have hge : (0 : Int) ≤ (i : Int) := by omega
        have hwr : IntKind.i64.wrap ((i : Int) + 1) = (i : Int) + 1 := by
          unfold IntKind.wrap
          simp [IntKind.bits, IntKind.signed]
          omega
        gi_wp2
        refine ⟨trivial, ?_⟩
        refine (callsIn_wide.2 HCI.out).mono ?_
        rintro e w1 ⟨rfl, rfl⟩
        gi_wp2
        gi_region_with_o (fail)
        all_goals
          gi_wp2
          refine HR3.out.mono ?_
          rintro e W3 ⟨g', hsp, (⟨rfl, hJ3⟩ | ⟨rfl, hJx3⟩)⟩
          · have HJ3 := Aside0.mk hJ3
            rw [HHW2.out] at hsp
            have HS3 := Aside0.mk hsp
            clear hJ3 hsp
            have hl3 := HLS.out g' W3 HS3.out
            have HL3 := Aside0.mk (HL2.out.trans (hl3.imp (K' := fun k => k < w.heap.size) (fun k h => .inl h)))
            have HB3 := Aside0.mk (hl3.box (.inr rfl) HB2.out)
            have HZ := Aside0.mk (lenOf_box hbx.out)
            have HZ3 := Aside0.mk (lenOf_box HB3.out)
            clear hl3
            gi_wp2
            go_roundw
            case rel => exact ⟨A2, c' - (i + 1), t.drop (i + 1), pre ++ [(A', t.take (i + 1))], g', by rw [hdl]; omega, by rw [hdl]; omega, ⟨fun x hx => htb.out x (List.mem_of_mem_drop hx)⟩, HF2, ⟨HSP.out.2⟩, HE2, HJ3, ⟨HGS.out g' W3 HS3.out⟩, HL3, HB3⟩
            case measure => first | (rw [HZ.out, HZ3.out, hdl]; omega) | (simp only [HZ.out, HZ3.out, hdl]; omega)
          · gi_wp2
            refine bodyPost_ret (results_none rfl _ _ _) rfl ?_
            exact ⟨⟨_, rfl⟩, .inr ⟨_, g', HSP.out, hJx3⟩⟩
    · have ht0 : t = [] := List.eq_nil_of_length_eq_zero (by omega)
      subst ht0
      have hlt' : ¬ (0 : Int) < (([] : List Int).length : Int) := by simp
      have HE2 := Aside0.mk (show linesB r = pre.map Prod.snd by rw [hE.out]; simp [linesB])
      gi_wp2
      go_end0
      exact ⟨⟨_, rfl⟩, .inl ⟨pre, ⟨HE2.out.symm, fun a b hab => hpf.out (a, b) hab⟩, g, hJs.out⟩⟩
end Go.Proofs.YtmmbpbgcobmifaaGreatDoorH
end
section
namespace Go.Proofs.YtmmbpbgcobmifaaGreatDoorH
open Go
theorem stepR_scope {P : Program} {b : Frame} {a : Act} {k : List Item} {cs : List Frame} {w : World} {c : Code} : step P (lone (b.atR a (.code (.scope c) :: k)) cs w) = .next (lone (b.atR a (.code c :: .inScope c :: k)) cs w) :=
  step_lone_go (by simp [stepG, stepG.exec, Frame.atR])
theorem stepR_inScope {P : Program} {b : Frame} {a : Act} {k : List Item} {cs : List Frame} {w : World} {c : Code} : step P (lone (b.atR a (.inScope c :: k)) cs w) = .next (lone (b.atR a k) cs w) :=
  step_lone_go (by simp [stepG, stepG.exec, Frame.atR])
theorem wpIn_scope_straight {F : Fence} {n : Nat} {P : Program} {Q : Exit → Act → World → Prop} {a : Act} {w : World} {c : Code} (h : c.wpIn F n P (Exit.noGoto Q) a w) : (Code.scope c).wpIn F n P Q a w := by
  intro b k cs hro hb hr
  have h0 : (lone (b.atR a (.code (.scope c) :: k)) cs w).fenced P F := fenced_calm hb hr rfl
  obtain ⟨e, a₁, w₁, hq, harr⟩ := h b (.inScope c :: k) cs hro hb hr
  cases e with
  | normal => exact ⟨.normal, a₁, w₁, hq, .head h0 stepR_scope (StepsIn.trans harr (.one (fenced_calm hb hr rfl) stepR_inScope))⟩
  | exit id =>
    have hx : exitTo id (.inScope c :: k) = exitTo id k := by simp [exitTo]
    exact ⟨.exit id, a₁, w₁, hq, fun k' hk => .head h0 stepR_scope (harr.1 k' (by rw [hx]; exact hk)),
      fun hr' hk => let ⟨k₁, h1, h2⟩ := harr.2 hr' (by rw [hx]; exact hk); ⟨k₁, h1, .head h0 stepR_scope h2⟩⟩
  | goto l => exact hq.elim
  | ret => exact ⟨_, a₁, w₁, hq, .of_steps (.one h0 stepR_scope) (show ArrivesIn _ _ _ _ k _ _ _ _ from harr)⟩
  | panic ch => exact ⟨_, a₁, w₁, hq, .of_steps (.one h0 stepR_scope) (show ArrivesIn _ _ _ _ k _ _ _ _ from harr)⟩
  | outgrown => exact ⟨_, a₁, w₁, hq, .of_steps (.one h0 stepR_scope) (show ArrivesIn _ _ _ _ k _ _ _ _ from harr)⟩
end Go.Proofs.YtmmbpbgcobmifaaGreatDoorH
end
