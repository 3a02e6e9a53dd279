import Derived.Test.YtmmbpbgcobmifaaGreatDoorZOutletWholesP7
import Derived.Test.YtmmbpbgcobmifaaGreatDoorZOutletWholesP3
import Derived.Test.YtmmbpbgcobmifaaGreatDoorZOutletWholesP1
import Derived.Test.YtmmbpbgcobmifaaGreatDoorZOutletWholesP5
import Derived.Test.YtmmbpbgcobmifaaGreatDoorZOutletWholesP4
namespace Go.Proofs.YtmmbpbgcobmifaaGreatDoorW.PrintWords
end Go.Proofs.YtmmbpbgcobmifaaGreatDoorW.PrintWords
namespace Go.Proofs.YtmmbpbgcobmifaaGreatDoorW.PrintLast
end Go.Proofs.YtmmbpbgcobmifaaGreatDoorW.PrintLast
namespace Go.Proofs.YtmmbpbgcobmifaaGreatDoorW.PrintMore
end Go.Proofs.YtmmbpbgcobmifaaGreatDoorW.PrintMore
namespace Go.Proofs.YtmmbpbgcobmifaaGreatDoor.Pr
end Go.Proofs.YtmmbpbgcobmifaaGreatDoor.Pr
namespace Go.Proofs.YtmmbpbgcobmifaaGreatDoorM
end Go.Proofs.YtmmbpbgcobmifaaGreatDoorM
namespace Go.Proofs.YtmmbpbgcobmifaaGreatDoorH
end Go.Proofs.YtmmbpbgcobmifaaGreatDoorH
section
namespace Go.Proofs.YtmmbpbgcobmifaaGreatDoor.Pr
end Go.Proofs.YtmmbpbgcobmifaaGreatDoor.Pr
namespace Go.Proofs.YtmmbpbgcobmifaaGreatDoorH
set_option linter.unusedVariables false
set_option linter.unusedSimpArgs false
open Go Go.RowKit Go.Proofs.YtmmbpbgcobmifaaGreatDoorW.PrintWords Go.Proofs.YtmmbpbgcobmifaaGreatDoorW.PrintLast Go.Proofs.YtmmbpbgcobmifaaGreatDoorW.PrintMore Go.Proofs.YtmmbpbgcobmifaaGreatDoor.Pr Go.Proofs.YtmmbpbgcobmifaaGreatDoorM
def bodyM (s : List Int) (e0 e1 e2 : Nat) : RM (List Fld) × List Int := scannedM (secM s e1 e2) s (e0 : Int)
def RLF (B : Nat) (W : World) (v : Value) (l : List Fld) : Prop := Kd.R k28 28 W B (fun _ => True) v l
theorem RLF.far {B : Nat} {W W' : World} {v : Value} {l : List Fld} {g t : Nat} {cs : Array Value} (h : RLF B W v l) (hb : W.heap[g]? = some (.cells cs t (0, 0))) (ht : ∀ q, q ∈ 28 :: (k28).E → q ≠ t) (hm : ∀ k, ¬ k = g → W'.heap[k]? = W.heap[k]?) : RLF B W' v l :=
  Kd.R_mono (Kd.R_move (Kd.R_types h hb ht) (fun k hk => hm k hk.2)) (fun _ _ => trivial)
theorem RLF.far2 {B : Nat} {W W' : World} {v : Value} {l : List Fld} {bB bE : Nat} {cs1 cs2 : Array Value} (h : RLF B W v l) (h1 : W.heap[bB]? = some (.cells cs1 42 (0, 0))) (h2 : W.heap[bE]? = some (.cells cs2 74 (0, 0))) (hm : ∀ k, ¬ k = bB → ¬ k = bE → W'.heap[k]? = W.heap[k]?) : RLF B W' v l :=
  Kd.R_mono (Kd.R_move (Kd.R_types (Kd.R_types h h1 (by decide)) h2 (by decide)) (fun k hk => hm k hk.1.2 hk.2)) (fun _ _ => trivial)
theorem scanned_does (B b : Nat) (A : Option Addr) (c : Nat) (e0 e1 e2 : Nat) (s : List Int) (w : World) (h : IsR w b A s.length c (e0 : Int) (e1 : Int) (e2 : Int) 0 (.slice none 0 0)) (hBb : B ≤ b) (hBw : B ≤ w.heap.size) (hC : Keeps B w fun W => Kd.C (Kd.int .u8) W A s.length s ∧ TabOk W) (hs : ByteL s) (hl : s.length ≤ 1073741824) (hsc : s.length ≤ c) (h1 : e1 ≤ 65536) (h2 : e2 ≤ 65536) :
    Calls Tryz.prog 23 #[.pointer (some ⟨b, 0, none⟩)] w (DoesS w B b A s.length c (e0 : Int) (e1 : Int) (e2 : Int) (RLF B) (bodyM s e0 e1 e2).1 (bodyM s e0 e1 e2).2) :=
  scanned_try B b A c (e0 : Int) (e1 : Int) (e2 : Int) s w h hBb hBw hC hs hl hsc (RLF B) (secM s e1 e2)
    (fun w1 W a dv D hb hA ha => (section_does w1 W B b A c (e0 : Int) e1 e2 a dv D s hA hBb (Nat.le_trans hBw hb.size) (fun W' hW' => hC W' (hb.trans hW')) hs hl hsc ha h1 h2).mono fun e w' hd => by
      unfold DoesF at hd
      cases hm : secM s e1 e2 a with
      | ok x => rw [hm] at hd; exact hd
      | error x => rw [hm] at hd; exact hd)
    (fun W W' v l bB bE cs1 cs2 h hB hE hm => h.far2 hB hE hm)
def toldM : RM (List Fld) × List Int → List Int × List Fld × Int × Int × Int
  | (.ok (l, a), D) => (D, l, (a : Int), (a : Int), 0)
  | (.error (a, er), _) => ([], [], 0, (a : Int), er)
def scanT (s : List Int) (e0 e1 e2 : Nat) : List Int × List Fld × Int × Int × Int := toldM (bodyM s e0 e1 e2)
def DoesT (w : World) (T : List Int × List Fld × Int × Int × Int) (e : Ending) (w' : World) : Prop :=
  ∃ v0 v1, e = .returned (.tuple #[.agg #[v0, v1, .int .i64 T.2.2.1], .int .i64 T.2.2.2.1, .int .i64 T.2.2.2.2]) ∧
    Kd.R (Kd.int .u8) 5 w' w.heap.size (fun _ => True) v0 T.1 ∧ Kd.R k28 28 w' w.heap.size (fun _ => True) v1 T.2.1 ∧ Below w.heap.size w w'
theorem R_of_D {W : World} {base : Nat} {v : Value} {l : List Int} (h : RowD W base v l) : Kd.R (Kd.int .u8) 5 W base (fun _ => True) v l := by
  have h1 : W.ownsRow base 5 (Kd.int .u8).sz v l.length (l.flatMap fun x => [Value.int .u8 x]) := by
    rw [flat_one]
    exact h
  exact row_of_owns (Kd.int .u8) (fun x => [Value.int .u8 x]) (fun _ => rfl) (fun _ _ => rfl) h1
theorem does_unify {w w' : World} {B b : Nat} {A : Option Addr} {n c : Nat} {e0 e1 e2 : Int} {M : RM (List Fld) × List Int} {T : List Int × List Fld × Int × Int × Int} {e : Ending} (h : DoesS w B b A n c e0 e1 e2 (RLF B) M.1 M.2 e w')
    (hT : T = toldM M) :
    ∃ x0 x1, e = .returned (.tuple #[.agg #[x0, x1, .int .i64 T.2.2.1], .agg #[.int .i64 T.2.2.2.1, .int .i64 T.2.2.2.2]]) ∧ Kd.R (Kd.int .u8) 5 w' B (fun _ => True) x0 T.1 ∧ RLF B w' x1 T.2.1 ∧ Below B w w' ∧ Fore b w w' := by
  obtain ⟨M, D⟩ := M
  obtain ⟨dv, h⟩ := h
  rcases M with ⟨a, er⟩ | ⟨l, a⟩
  · obtain ⟨rfl, hA⟩ := h
    subst hT
    exact ⟨_, _, rfl, Kd.R_nil _ _ _ _ _, Kd.R_nil _ _ _ _ _, hA.b, hA.f⟩
  · obtain ⟨v, hv, rfl, hA⟩ := h
    subst hT
    exact ⟨dv, v, rfl, R_of_D hA.r, hv, hA.b, hA.f⟩
theorem setB3 (bB : Nat) (x0 x1 x2 : Value) (w : World) (v0 v1 v2 : Value) (hB : w.heap[bB]? = some (.cells #[v0, v1, v2] 42 (0, 0))) :
    (((w.setCell ⟨bB, 0, none⟩ x0).setCell ⟨bB, 1, none⟩ x1).setCell ⟨bB, 2, none⟩ x2).heap[bB]? = some (.cells #[x0, x1, x2] 42 (0, 0)) ∧
    Below bB w (((w.setCell ⟨bB, 0, none⟩ x0).setCell ⟨bB, 1, none⟩ x1).setCell ⟨bB, 2, none⟩ x2) ∧
    (∀ k, ¬ k = bB → (((w.setCell ⟨bB, 0, none⟩ x0).setCell ⟨bB, 1, none⟩ x1).setCell ⟨bB, 2, none⟩ x2).heap[k]? = w.heap[k]?) ∧
    (((w.setCell ⟨bB, 0, none⟩ x0).setCell ⟨bB, 1, none⟩ x1).setCell ⟨bB, 2, none⟩ x2).heap.size = w.heap.size := by
  have h1 := blk_set hB 0 x0
  have h2 := blk_set h1 1 x1
  have h3 := blk_set h2 2 x2
  refine ⟨h3, (((Below.refl _ _).setCell (p := ⟨bB, 0, none⟩) (Nat.le_refl _) _).setCell (p := ⟨bB, 1, none⟩) (Nat.le_refl _) _).setCell (p := ⟨bB, 2, none⟩) (Nat.le_refl _) _, fun k h => ?_, by simp⟩
  rw [Below.heap_setCell _ ⟨bB, 2, none⟩ _ k h, Below.heap_setCell _ ⟨bB, 1, none⟩ _ k h, Below.heap_setCell _ ⟨bB, 0, none⟩ _ k h]
theorem scan_start (w : World) (e0 e1 e2 : Int) :
    let W := (w.alloc (.cells #[.int .i64 e0, .int .i64 e1, .int .i64 e2] 46)).alloc (.cells zeroBody 42)
    W.heap.size = w.heap.size + 2 ∧ W.heap[w.heap.size]? = some (.cells #[.int .i64 e0, .int .i64 e1, .int .i64 e2] 46 (0, 0)) ∧ W.heap[w.heap.size + 1]? = some (.cells zeroBody 42 (0, 0)) ∧ Below w.heap.size w W := by
  have hs : ∀ (W : World) (o : Obj), (W.alloc o).heap.size = W.heap.size + 1 := fun W o => World.size_alloc W o
  refine ⟨by simp only [hs], alloc_keep _ (World.alloc_heap_new w _), ?_, below_alloc (below_alloc (Below.refl _ _) _) _⟩
  have := World.alloc_heap_new (w.alloc (.cells #[.int .i64 e0, .int .i64 e1, .int .i64 e2] 46)) (.cells zeroBody 42)
  rwa [hs] at this
set_option maxHeartbeats 8000000 in
set_option maxRecDepth 100000 in
theorem scan_bad (A : Option Addr) (n c : Nat) (e0 e1 e2 : Int) (w : World) (hr : rightL e0 e1 e2 = false) :
    Calls Tryz.prog 12 #[.slice A n c, .agg #[.int .i64 e0, .int .i64 e1, .int .i64 e2]] w fun e w' => e = .returned (.tuple #[.agg zeroBody, .int .i64 0, .int .i64 1]) ∧ Below w.heap.size w w' := by
  have HRI := Aside0.mk (fun W => bodyRight_calls e0 e1 e2 W)
  rw [hr] at HRI
  clear hr
  go_enter Tryz.func12, Tryz.ntmps12
  go_wp2_with fail
  refine (HRI.out _).mono ?_
  rintro e W2 ⟨rfl, hb2⟩
  obtain ⟨q1, q2, q3, q4⟩ := scan_start w e0 e1 e2
  have p3 : W2.heap[w.heap.size + 1]? = some (.cells zeroBody 42 (0, 0)) := (hb2.block _ (blk_lt q3)).trans q3
  have HBW := Aside0.mk (show Below w.heap.size w W2 from q4.trans (hb2.mono (by exact q4.size)))
  have k0 : W2.cell? ⟨w.heap.size + 1, 0, none⟩ = some (.slice none 0 0) := (blk_cell p3 0).trans rfl
  have k1 : W2.cell? ⟨w.heap.size + 1, 1, none⟩ = some (.slice none 0 0) := (blk_cell p3 1).trans rfl
  have k2 : W2.cell? ⟨w.heap.size + 1, 2, none⟩ = some (.int .i64 0) := (blk_cell p3 2).trans rfl
  have f0 : W2.frozen? ⟨w.heap.size + 1, 0, none⟩ = false := blk_frozen p3 0
  have f1 : W2.frozen? ⟨w.heap.size + 1, 1, none⟩ = false := blk_frozen p3 1
  have f2 : W2.frozen? ⟨w.heap.size + 1, 2, none⟩ = false := blk_frozen p3 2
  obtain ⟨W3, z1, z2, z3, _⟩ := setB (w.heap.size + 1) _ _ _ W2 p3
  have Z1 := Aside0.mk z1
  have Z2 := Aside0.mk z2
  have Z3 := Aside0.mk z3
  clear hb2 q1 q2 q3 q4 p3 z1 z2 z3
  go_wp2
  rw [Z1.out]
  refine bodyPost_ret (results_ctt rfl _ _ (w.heap.size + 1) 42 zeroBody (0, 0) _ rfl Z2.out Tryz.underlying42 rfl (by kernel_rfl)) rfl ?_
  exact ⟨rfl, HBW.out.trans (Z3.out.mono (Nat.le_succ _))⟩
set_option maxHeartbeats 8000000 in
set_option maxRecDepth 100000 in
theorem scan_good (A : Option Addr) (c : Nat) (s : List Int) (e0 e1 e2 : Nat) (w : World) (hr : rightL (e0 : Int) (e1 : Int) (e2 : Int) = true) (h1 : e1 ≤ 65536) (h2 : e2 ≤ 65536) (hC : Kd.C (Kd.int .u8) w A s.length s) (hG : TabOk w) (hs : ByteL s) (hl : s.length ≤ 1073741824) (hsc : s.length ≤ c) :
    Calls Tryz.prog 12 #[.slice A s.length c, .agg #[.int .i64 (e0 : Int), .int .i64 (e1 : Int), .int .i64 (e2 : Int)]] w (DoesT w (scanT s e0 e1 e2)) := by
  have HRI := Aside0.mk (fun W => bodyRight_calls (e0 : Int) (e1 : Int) (e2 : Int) W)
  rw [hr] at HRI
  have HK := Aside0.mk (fun (W : World) (h : Below w.heap.size w W) => (⟨Kd.C_below hC h, hG.below h⟩ : Kd.C (Kd.int .u8) W A s.length s ∧ TabOk W))
  have HSD := Aside0.mk (fun (b : Nat) (W : World) (hi : IsR W b A s.length c (e0 : Int) (e1 : Int) (e2 : Int) 0 (.slice none 0 0)) (hb : w.heap.size ≤ b) (hw : Below w.heap.size w W) => scanned_does w.heap.size b A c e0 e1 e2 s W hi hb hw.size (fun W' hW' => HK.out W' (hw.trans hW')) hs hl hsc h1 h2)
  have HT := Aside0.mk (show scanT s e0 e1 e2 = toldM (bodyM s e0 e1 e2) from rfl)
  generalize scanT s e0 e1 e2 = T at *
  generalize bodyM s e0 e1 e2 = M at *
  clear hr hC hG hs
  go_enter Tryz.func12, Tryz.ntmps12
  go_wp2_with fail
  refine (HRI.out _).mono ?_
  rintro e W2 ⟨rfl, hb2⟩
  obtain ⟨q1, q2, q3, q4⟩ := scan_start w (e0 : Int) (e1 : Int) (e2 : Int)
  have p2 : W2.heap[w.heap.size]? = some (.cells #[.int .i64 (e0 : Int), .int .i64 (e1 : Int), .int .i64 (e2 : Int)] 46 (0, 0)) := (hb2.block _ (blk_lt q2)).trans q2
  have p3 : W2.heap[w.heap.size + 1]? = some (.cells zeroBody 42 (0, 0)) := (hb2.block _ (blk_lt q3)).trans q3
  have hbw : Below w.heap.size w W2 := q4.trans (hb2.mono (by exact q4.size))
  have m0 : W2.cell? ⟨w.heap.size, 0, none⟩ = some (.int .i64 (e0 : Int)) := (blk_cell p2 0).trans rfl
  have m1 : W2.cell? ⟨w.heap.size, 1, none⟩ = some (.int .i64 (e1 : Int)) := (blk_cell p2 1).trans rfl
  have m2 : W2.cell? ⟨w.heap.size, 2, none⟩ = some (.int .i64 (e2 : Int)) := (blk_cell p2 2).trans rfl
  have HB2 := Aside0.mk hbw
  have P3 := Aside0.mk p3
  clear hb2 q1 q2 q3 q4 p2 p3 hbw
  go_wp2_with fail
  have HAL := Aside0.mk (below_alloc HB2.out (.cells #[.slice A s.length c, .int .i64 (e0 : Int), .int .i64 (e1 : Int), .int .i64 (e2 : Int), .int .i64 0, .slice none 0 0] 72))
  refine (HSD.out W2.heap.size _ (World.alloc_heap_new W2 _) HB2.out.size HAL.out).mono ?_
  rintro e w3 hd
  obtain ⟨x0, x1, rfl, hx0, hx1, hb3, hf3⟩ := does_unify hd HT.out
  have hB3 : w3.heap[w.heap.size + 1]? = some (.cells zeroBody 42 (0, 0)) := hf3 _ _ _ (by decide) (by have := blk_lt P3.out; omega) (alloc_keep _ P3.out)
  have HB3 := Aside0.mk (HAL.out.trans hb3)
  obtain ⟨a0, k0, rfl⟩ := Kd.R_slice hx0
  obtain ⟨a1, k1, rfl⟩ := Kd.R_slice hx1
  obtain ⟨tD, tl, ts, ta, te⟩ := T
  dsimp only at hx0 hx1 ⊢
  have hlt3 := blk_lt hB3
  have HX0 := Aside0.mk hx0
  have HX1 := Aside0.mk hx1
  clear hd hb3 hf3 hx0 hx1 HT HSD HRI HK
  obtain ⟨s1, s2, s3, s4⟩ := setB3 (w.heap.size + 1) (.slice a0 tD.length k0) (.slice a1 tl.length k1) (.int .i64 ts) w3 _ _ _ hB3
  have n0 : w3.cell? ⟨w.heap.size + 1, 0, none⟩ = some (.slice none 0 0) := (blk_cell hB3 0).trans rfl
  have n1 : w3.cell? ⟨w.heap.size + 1, 1, none⟩ = some (.slice none 0 0) := (blk_cell hB3 1).trans rfl
  have n2 : w3.cell? ⟨w.heap.size + 1, 2, none⟩ = some (.int .i64 0) := (blk_cell hB3 2).trans rfl
  have f0 : w3.frozen? ⟨w.heap.size + 1, 0, none⟩ = false := blk_frozen hB3 0
  have f1 : w3.frozen? ⟨w.heap.size + 1, 1, none⟩ = false := blk_frozen hB3 1
  have f2 : w3.frozen? ⟨w.heap.size + 1, 2, none⟩ = false := blk_frozen hB3 2
  have HB3' := Aside0.mk hB3
  have S1 := Aside0.mk s1
  have S2 := Aside0.mk s2
  have S3 := Aside0.mk s3
  have S4 := Aside0.mk s4
  clear hB3 s1 s2 s3 s4
  go_wp2_with fail
  obtain ⟨W4, hW4⟩ : ∃ W4, ((w3.setCell ⟨w.heap.size + 1, 0, none⟩ (.slice a0 tD.length k0)).setCell ⟨w.heap.size + 1, 1, none⟩ (.slice a1 tl.length k1)).setCell ⟨w.heap.size + 1, 2, none⟩ (.int .i64 ts) = W4 := ⟨_, rfl⟩
  rw [hW4] at S1 S2 S3 S4
  rw [hW4]
  have hE5 := World.alloc_heap_new W4 (.cells #[.int .i64 ta, .int .i64 te] 74)
  have hB5 := alloc_keep (.cells #[.int .i64 ta, .int .i64 te] 74) S1.out
  have hb5 : Below W4.heap.size W4 (W4.alloc (.cells #[.int .i64 ta, .int .i64 te] 74)) := below_alloc (Below.refl _ _) _
  rw [S4.out] at hE5
  have HX15 := Aside0.mk (show RLF w.heap.size (W4.alloc (.cells #[.int .i64 ta, .int .i64 te] 74)) (.slice a1 tl.length k1) tl from Kd.R_below (RLF.far HX1.out HB3'.out (by decide) S3.out) hb5)
  have HX05 := Aside0.mk (show Kd.R (Kd.int .u8) 5 (W4.alloc (.cells #[.int .i64 ta, .int .i64 te] 74)) w.heap.size (fun _ => True) (.slice a0 tD.length k0) tD from
    Kd.R_below (Kd.R_mono (Kd.R_move (Kd.R_types HX0.out HB3'.out (by decide)) (fun k hk => S3.out k hk.2)) (fun _ _ => trivial)) hb5)
  have HBL5 := Aside0.mk (show Below w.heap.size w (W4.alloc (.cells #[.int .i64 ta, .int .i64 te] 74)) from below_alloc (HB3.out.trans (S2.out.mono (Nat.le_succ _))) _)
  generalize W4.alloc (.cells #[.int .i64 ta, .int .i64 te] 74) = W5 at *
  clear hb5 hW4 n0 n1 n2 f0 f1 f2 S1 S2 S3 S4
  generalize hbB : w.heap.size + 1 = bB at *
  generalize hbE : w3.heap.size = bE at *
  have HbB := Aside0.mk hbB
  clear hbE
  obtain ⟨s1, s2, s3, s4⟩ := setB3 bB (.slice a0 tD.length k0) (.slice a1 tl.length k1) (.int .i64 ts) W5 _ _ _ hB5
  have S1 := Aside0.mk s1
  have S2 := Aside0.mk s2
  have S3 := Aside0.mk s3
  have hne : ¬ bE = bB := by omega
  have hE6 := (s3 bE hne).trans hE5
  have u0 : (((W5.setCell ⟨bB, 0, none⟩ (.slice a0 tD.length k0)).setCell ⟨bB, 1, none⟩ (.slice a1 tl.length k1)).setCell ⟨bB, 2, none⟩ (.int .i64 ts)).drew.cell? ⟨bB, 0, none⟩ = some (.slice a0 tD.length k0) := (blk_cell s1 0).trans rfl
  have u1 : (((W5.setCell ⟨bB, 0, none⟩ (.slice a0 tD.length k0)).setCell ⟨bB, 1, none⟩ (.slice a1 tl.length k1)).setCell ⟨bB, 2, none⟩ (.int .i64 ts)).drew.cell? ⟨bB, 1, none⟩ = some (.slice a1 tl.length k1) := (blk_cell s1 1).trans rfl
  have u2 : (((W5.setCell ⟨bB, 0, none⟩ (.slice a0 tD.length k0)).setCell ⟨bB, 1, none⟩ (.slice a1 tl.length k1)).setCell ⟨bB, 2, none⟩ (.int .i64 ts)).drew.cell? ⟨bB, 2, none⟩ = some (.int .i64 ts) := (blk_cell s1 2).trans rfl
  have u3 : (((W5.setCell ⟨bB, 0, none⟩ (.slice a0 tD.length k0)).setCell ⟨bB, 1, none⟩ (.slice a1 tl.length k1)).setCell ⟨bB, 2, none⟩ (.int .i64 ts)).drew.cell? ⟨bE, 0, none⟩ = some (.int .i64 ta) := (blk_cell hE6 0).trans rfl
  have u4 : (((W5.setCell ⟨bB, 0, none⟩ (.slice a0 tD.length k0)).setCell ⟨bB, 1, none⟩ (.slice a1 tl.length k1)).setCell ⟨bB, 2, none⟩ (.int .i64 ts)).drew.cell? ⟨bE, 1, none⟩ = some (.int .i64 te) := (blk_cell hE6 1).trans rfl
  have n0 : W5.cell? ⟨bB, 0, none⟩ = some (.slice a0 tD.length k0) := (blk_cell hB5 0).trans rfl
  have n1 : W5.cell? ⟨bB, 1, none⟩ = some (.slice a1 tl.length k1) := (blk_cell hB5 1).trans rfl
  have n2 : W5.cell? ⟨bB, 2, none⟩ = some (.int .i64 ts) := (blk_cell hB5 2).trans rfl
  have n3 : W5.cell? ⟨bE, 0, none⟩ = some (.int .i64 ta) := (blk_cell hE5 0).trans rfl
  have n4 : W5.cell? ⟨bE, 1, none⟩ = some (.int .i64 te) := (blk_cell hE5 1).trans rfl
  have d0 : W5.drew.cell? ⟨bB, 0, none⟩ = some (.slice a0 tD.length k0) := n0
  have d1 : W5.drew.cell? ⟨bB, 1, none⟩ = some (.slice a1 tl.length k1) := n1
  have d2 : W5.drew.cell? ⟨bB, 2, none⟩ = some (.int .i64 ts) := n2
  have d3 : W5.drew.cell? ⟨bE, 0, none⟩ = some (.int .i64 ta) := n3
  have d4 : W5.drew.cell? ⟨bE, 1, none⟩ = some (.int .i64 te) := n4
  have f0 : W5.frozen? ⟨bB, 0, none⟩ = false := blk_frozen hB5 0
  have f1 : W5.frozen? ⟨bB, 1, none⟩ = false := blk_frozen hB5 1
  have f2 : W5.frozen? ⟨bB, 2, none⟩ = false := blk_frozen hB5 2
  have HB5 := Aside0.mk hB5
  clear s1 s2 s3 s4 hE6 hB5 hE5 hbB
  go_region_held3 (fun W => W.cell? ⟨bB, 0, none⟩ = some (.slice a0 tD.length k0) ∧ W.cell? ⟨bB, 1, none⟩ = some (.slice a1 tl.length k1) ∧ W.cell? ⟨bB, 2, none⟩ = some (.int .i64 ts) ∧ W.cell? ⟨bE, 0, none⟩ = some (.int .i64 ta) ∧ W.cell? ⟨bE, 1, none⟩ = some (.int .i64 te))
    (first | with_reducible exact ⟨d0, d1, d2, d3, d4⟩ | with_reducible exact ⟨u0, u1, u2, u3, u4⟩) (fail)
  all_goals
    generalize hW6 : (((W5.setCell ⟨bB, 0, none⟩ (.slice a0 tD.length k0)).setCell ⟨bB, 1, none⟩ (.slice a1 tl.length k1)).setCell ⟨bB, 2, none⟩ (.int .i64 ts)) = W6 at *
    clear d0 d1 d2 d3 d4 u0 u1 u2 u3 u4 n0 n1 n2 n3 n4 f0 f1 f2 m0 m1 m2
    go_wp2
    refine bodyPost_ret (results_ctt rfl _ _ bB 42 #[.slice a0 tD.length k0, .slice a1 tl.length k1, .int .i64 ts] (0, 0) _ rfl S1.out Tryz.underlying42 rfl (by kernel_rfl)) rfl ?_
    refine ⟨_, _, rfl, ?_, ?_, ?_⟩
    · exact Kd.R_drew (Kd.R_mono (Kd.R_move (Kd.R_types HX05.out HB5.out (by decide)) (fun k hk => S3.out k hk.2)) (fun _ _ => trivial))
    · exact Kd.R_drew (RLF.far HX15.out HB5.out (by decide) S3.out)
    · exact below_drew (HBL5.out.trans (S2.out.mono (by rw [← HbB.out]; exact Nat.le_succ _)))
def byteB (l : List Int) : Bool := l.all fun x => decide (0 ≤ x) && decide (x ≤ 255)
theorem byteB_iff {l : List Int} : byteB l = true ↔ ByteL l := by
  unfold byteB ByteL
  simp [List.all_eq_true]
theorem rightL_nat {a b c : Int} (h : rightL a b c = true) : ∃ x y z : Nat, a = (x : Int) ∧ b = (y : Int) ∧ c = (z : Int) ∧ x ≤ 65536 ∧ y ≤ 65536 ∧ z ≤ 65536 := by
  unfold rightL at h
  simp only [Bool.and_eq_true, decide_eq_true_eq] at h
  exact ⟨a.toNat, b.toNat, c.toNat, by omega, by omega, by omega, by omega, by omega, by omega⟩
def body_Right.f (a0 a1 a2 : Int) : Option Bool := some (rightL a0 a1 a2)
def body_Scan.f (l0 : List Int) (a1_0 a1_1 a1_2 : Int) : Option (List Int × List S28 × Int × Int × Int) :=
  if l0.length ≤ 1073741824 ∧ byteB l0 = true then some (if rightL a1_0 a1_1 a1_2 = true then scanT l0 a1_0.toNat a1_1.toNat a1_2.toNat else ([], [], 0, 0, 1)) else none
theorem body_Scan.calls (A0 : Option Addr) (c0 : Nat) (l0 : List Int) (a1_0 a1_1 a1_2 : Int) (r1 : List Int) (r2 : List S28) (r3 r4 r5 : Int) (w : World) (hr0 : Kd.C (Kd.int .u8) w A0 l0.length l0) (hc0 : l0.length ≤ c0) (hG : TabOk w) (h : body_Scan.f l0 a1_0 a1_1 a1_2 = some (r1, r2, r3, r4, r5)) :
    Calls Tryz.prog 12 #[.slice A0 l0.length c0, .agg #[.int .i64 a1_0, .int .i64 a1_1, .int .i64 a1_2]] w fun e w' => ∃ v0_ v1_ : Value, e = .returned (.tuple #[.agg #[v0_, v1_, .int .i64 r3], .int .i64 r4, .int .i64 r5]) ∧ Kd.R (Kd.int .u8) 5 w' w.heap.size (fun _ => True) v0_ r1 ∧ Kd.R k28 28 w' w.heap.size (fun _ => True) v1_ r2 ∧ Below w.heap.size w w' := by
  unfold body_Scan.f at h
  split at h
  · rename_i hh
    injection h with h
    by_cases hr : rightL a1_0 a1_1 a1_2 = true
    · rw [if_pos hr] at h
      obtain ⟨x, y, z, rfl, rfl, rfl, _, hy, hz⟩ := rightL_nat hr
      simp only [Int.toNat_natCast] at h
      refine (scan_good A0 c0 l0 x y z w hr hy hz hr0 hG (byteB_iff.1 hh.2) hh.1 hc0).mono ?_
      rintro e w' hd
      rw [h] at hd
      exact hd
    · rw [if_neg hr] at h
      cases h
      refine (scan_bad A0 l0.length c0 a1_0 a1_1 a1_2 w (by simpa using hr)).mono ?_
      rintro e w' ⟨rfl, hb⟩
      exact ⟨_, _, rfl, Kd.R_nil _ _ _ _ _, Kd.R_nil _ _ _ _ _, hb⟩
  · cases h
def body_Payload.f (l0 : List Int) (a1_0 a1_1 a1_2 : Int) : Option (List Int) :=
  if l0.length ≤ 1073741824 ∧ byteB l0 = true then some (if rightL a1_0 a1_1 a1_2 = true then (bodyM l0 a1_0.toNat a1_1.toNat a1_2.toNat).2 else []) else none
end Go.Proofs.YtmmbpbgcobmifaaGreatDoorH
end
section
namespace Go.Proofs.YtmmbpbgcobmifaaGreatDoor.Pr
end Go.Proofs.YtmmbpbgcobmifaaGreatDoor.Pr
namespace Go.Proofs.YtmmbpbgcobmifaaGreatDoorH
set_option linter.unusedVariables false
set_option linter.unusedSimpArgs false
open Go.RowKit Go.Proofs.YtmmbpbgcobmifaaGreatDoorW.PrintWords Go.Proofs.YtmmbpbgcobmifaaGreatDoorW.PrintLast Go.Proofs.YtmmbpbgcobmifaaGreatDoorW.PrintMore Go.Proofs.YtmmbpbgcobmifaaGreatDoor.Pr Go.Proofs.YtmmbpbgcobmifaaGreatDoorM
def pfM (l : List Int) : Fld := fldOf (strOfNums l)
def envM (e0 e1 e2 : Nat) : MEnv Fld := ⟨digI, textB, tokI, pfM, e0, e1, e2⟩
theorem all256 {p : Int → Prop} (h : ∀ n : Fin 256, p (n.val : Int)) {c : Int} (hc : 0 ≤ c ∧ c ≤ 255) : p c := by
  have := h ⟨c.toNat, by omega⟩
  rw [show ((⟨c.toNat, by omega⟩ : Fin 256).val : Int) = c by show (c.toNat : Int) = c; omega] at this
  exact this
theorem goodM (e0 e1 e2 : Nat) : Good (envM e0 e1 e2) :=
  ⟨fun _ => rfl, fun _ => rfl, by decide +kernel, by decide +kernel, by decide +kernel, by decide +kernel, by decide +kernel, (show tokI 13 = false by decide +kernel), (show tokI 10 = false by decide +kernel), (show tokI 58 = false by decide +kernel)⟩
theorem nextM (e0 e1 e2 : Nat) : NextOk (envM e0 e1 e2) nxt (fun c => 0 ≤ c ∧ c ≤ 255) :=
  ⟨fun _ hc => all256 (p := fun c => nxt 0 c = if c = 13 then (4, true) else (1, tokI c)) (by decide +kernel) hc,
   fun _ hc => all256 (p := fun c => nxt 1 c = if c = 58 then (2, true) else (1, tokI c)) (by decide +kernel) hc,
   fun _ hc => all256 (p := fun c => nxt 2 c = if c = 13 then (3, true) else (2, textB c)) (by decide +kernel) hc,
   fun _ hc => all256 (p := fun c => nxt 3 c = (0, c == 10)) (by decide +kernel) hc,
   fun _ hc => all256 (p := fun c => nxt 4 c = (5, c == 10)) (by decide +kernel) hc,
   (show tokI 10 = false by decide +kernel), (show tokI 13 = false by decide +kernel), (show textB 10 = false by decide +kernel), (show textB 13 = false by decide +kernel)⟩
theorem bt_nums {r : List Int} (hb : ByteL r) {i : Nat} (h : i < r.length) : bt (strOfNums r) (i : Int) = r.getD i 0 := by
  have hs : (strOfNums r).size = r.length := Go.strOfNums_size r
  rw [bt_nat _ i (by omega), strOfNums_data]
  have hx := hb _ (List.getElem_mem h)
  rw [List.getD_eq_getElem?_getD, List.getD_eq_getElem?_getD, List.getElem?_map, List.getElem?_eq_getElem h]
  simp only [Option.map_some, Option.getD_some]
  rw [UInt8.toNat_ofNat']
  omega
theorem scanP_I {r : List Int} (hb : ByteL r) : ∀ (k i : Nat) (st : Int), i ≤ r.length → r.length - i < k → scanP k (strOfNums r) i st = scanI nxt i (r.drop i) st
  | 0, i, st, h1, h2 => by omega
  | k + 1, i, st, h1, h2 => by
    have hs : (strOfNums r).size = r.length := Go.strOfNums_size r
    by_cases h : i < r.length
    · rw [scanP, if_pos (by omega), bt_nums hb h, drop_at h, scanI, scanP_I hb k (i + 1) _ (by omega) (by omega)]
    · rw [scanP, if_neg (by omega), List.drop_eq_nil_of_le (by omega), scanI]
theorem u8_ne {c : Int} (hc : 0 ≤ c ∧ c ≤ 255) {d : Nat} (hd : d < 256) (h : c ≠ (d : Int)) : UInt8.ofNat c.toNat ≠ UInt8.ofNat d := by
  intro e
  have := congrArg UInt8.toNat e
  rw [UInt8.toNat_ofNat', UInt8.toNat_ofNat'] at this
  omega
theorem index_crlfM : ∀ (a r : List UInt8), (∀ c ∈ a, c ≠ 13) → Lib.index (a ++ 13 :: 10 :: r) [13, 10] = (a.length : Int)
  | [], r, _ => by
    rw [List.nil_append, Lib.index, if_pos (by rfl)]
    rfl
  | c :: a, r, h => by
    have ih := index_crlfM a r (fun d hd => h d (List.mem_cons_of_mem _ hd))
    have hc := h c List.mem_cons_self
    rw [List.cons_append, Lib.index, ih]
    rw [if_neg (by
      intro hp
      rw [List.isPrefixOf] at hp
      have := (Bool.and_eq_true _ _ ▸ hp).1
      exact hc (beq_iff_eq.1 this).symm), if_neg (by rw [beq_iff_eq]; omega), List.length_cons]
    omega
theorem cut_crlfM (a r : List UInt8) (h : ∀ c ∈ a, c ≠ 13) : Lib.cut (a ++ 13 :: 10 :: r) [13, 10] = (a, r, true) := by
  unfold Lib.cut
  rw [index_crlfM a r h, if_pos (by omega)]
  simp only [Int.toNat_natCast, List.take_left, List.length_cons, List.length_nil]
  congr 2
  rw [show a.length + (0 + 1 + 1) = a.length + 2 from rfl, ← List.drop_drop, List.drop_left]
  rfl
theorem linesOf_consM (k : Nat) (s : ByteArray) (i : Nat) (a r : List UInt8) (hd : s.data.toList.drop i = a ++ 13 :: 10 :: r) (h : ∀ c ∈ a, c ≠ 13) :
    linesOf (k + 1) s i = (i, ⟨a.toArray⟩) :: (if a.isEmpty = true then [] else linesOf k s (i + a.length + 2)) := by
  rw [linesOf_succ, hd, cut_crlfM a r h, if_pos rfl]
def u8L (l : List Int) : List UInt8 := l.map fun n => UInt8.ofNat n.toNat
theorem fields_lines (s : ByteArray) : ∀ (ls : List (List Int)) (i k : Nat), (∀ l ∈ ls, l ≠ [] ∧ ∀ c ∈ l, (0 ≤ c ∧ c ≤ 255) ∧ c ≠ 13) → ls.length < k → s.data.toList.drop i = u8L (ls.flatMap (· ++ [13, 10]) ++ [13, 10]) → fieldsOf (linesOf k s i) = ls.map pfM
  | [], i, k, _, hk, hd => by
    obtain ⟨k, rfl⟩ : ∃ m, k = m + 1 := ⟨k - 1, by omega⟩
    rw [linesOf_consM k s i [] [] (by rw [hd]; rfl) (by simp)]
    rfl
  | l :: ls, i, k, hl, hk, hd => by
    simp only [List.length_cons] at hk
    obtain ⟨k, rfl⟩ : ∃ m, k = m + 1 := ⟨k - 1, by omega⟩
    obtain ⟨h0, hc⟩ := hl l List.mem_cons_self
    have hd2 : s.data.toList.drop i = u8L l ++ 13 :: 10 :: u8L (ls.flatMap (· ++ [13, 10]) ++ [13, 10]) := by
      rw [hd]
      unfold u8L
      simp
    have hne : (u8L l).isEmpty = false := by
      cases l with
      | nil => exact absurd rfl h0
      | cons a l => rfl
    have hlen : (u8L l).length = l.length := List.length_map ..
    rw [linesOf_consM k s i (u8L l) _ hd2 (fun c hcm => by
      obtain ⟨x, hx, rfl⟩ := List.mem_map.1 hcm
      exact u8_ne (hc x hx).1 (d := 13) (by omega) (hc x hx).2), hne, if_neg (by simp), fieldsOf]
    have hsz : ¬ (⟨(u8L l).toArray⟩ : ByteArray).size = 0 := by
      show ¬ (u8L l).length = 0
      rw [hlen]
      exact fun e => h0 (List.length_eq_zero_iff.1 e)
    rw [if_neg hsz, fields_lines s ls (i + (u8L l).length + 2) k (fun x hx => hl x (List.mem_cons_of_mem _ hx)) (by omega) (by
      rw [show i + (u8L l).length + 2 = i + ((u8L l).length + 2) by omega, ← List.drop_drop, hd2, ← List.drop_drop, List.drop_left]
      rfl)]
    rfl
theorem sectM_run (e0 e1 e2 : Nat) (s : List Int) (hb : ByteL s) (a : Nat) (ha : a ≤ s.length) (X : MSt Fld) (hp : X.place = 6) (hl : X.lines = 0) (hz : X.size = 0) (ht : X.text = []) (hf : X.fields = []) :
    match secM s e1 e2 a with
    | .error (a1, er) => er ≠ 0 ∧ ∃ st', mrun (envM e0 e1 e2) X (s.drop a) a = (st', a1, er) ∧ st'.data = X.data
    | .ok (l, a1) => ∃ st', mrun (envM e0 e1 e2) X (s.drop a) a = (st', a1, 0) ∧ st'.data = X.data ∧ st'.fields = l ∧ st'.place = 11 := by
  have hbr : ByteL (s.drop a) := fun x hx => hb x (List.mem_of_mem_drop hx)
  have hsc := scanP_I hbr ((strOfNums (s.drop a)).size + 1) 0 0 (Nat.zero_le _) (by rw [Go.strOfNums_size]; omega)
  rw [List.drop_zero] at hsc
  obtain ⟨r, hr⟩ : ∃ r, s.drop a = r := ⟨_, rfl⟩
  rw [hr] at hbr hsc ⊢
  have hshift : ∀ (l : List Int) (i j : Nat) (st : Int), scanI nxt (i + j) l st = ((scanI nxt i l st).1 + j, (scanI nxt i l st).2) := by
    intro l
    induction l with
    | nil => intro i j st; rfl
    | cons c l ih =>
      intro i j st
      rw [scanI, scanI]
      split
      · split
        · show (i + j + 1, (0 : Int)) = (i + 1 + j, 0)
          rw [show i + j + 1 = i + 1 + j by omega]
        · rw [show i + j + 1 = (i + 1) + j by omega]
          exact ih _ _ _
      · rfl
  obtain ⟨q, hq⟩ : ∃ q, scanI nxt 0 r 0 = q := ⟨_, rfl⟩
  obtain ⟨n, e⟩ := q
  rw [hq] at hsc
  have hge := scanI_ge (nx := nxt) r 0 0
  rw [hq] at hge
  dsimp only at hge
  have hsa : scanI nxt a r 0 = (n + a, e) := by
    have := hshift r 0 a 0
    rw [Nat.zero_add, hq] at this
    exact this
  obtain ⟨i1, i2, i3⟩ := sect_run (nextM e0 e1 e2) (r.length + 1) r a X (Nat.lt_succ_self _) hbr hp (by rw [hz]; exact Nat.zero_le _) ht (n + a) e hsa
  rw [show n + a - a = n by omega, hl, hz, beyM_L _ _ _ _ _ _ (by rw [List.length_take]; omega)] at i1 i2 i3
  have hR : (scanR (strOfNums r)).2.1 = (n : Int) ∧ (scanR (strOfNums r)).2.2 = e ∧ (e = 0 → (scanR (strOfNums r)).1 = fieldsOf (linesOf (n + 1) ((strOfNums r).extract 0 n) 0)) := by
    by_cases he : e = 0
    · subst he
      rw [scanR_good hsc (by rw [Go.strOfNums_size]; omega)]
      exact ⟨rfl, rfl, fun _ => rfl⟩
    · rw [scanR_bad hsc he]
      exact ⟨rfl, rfl, fun h => absurd h he⟩
  unfold secM secQ
  rw [hr, hR.1, hR.2.1, Int.toNat_natCast]
  obtain ⟨bv, hbv⟩ : ∃ bv, beyL e1 e2 (linesB (r.take n)) 0 0 = bv := ⟨_, rfl⟩
  have hE1 : (envM e0 e1 e2).e1 = e1 := rfl
  have hE2 : (envM e0 e1 e2).e2 = e2 := rfl
  rw [hE1, hE2, hbv] at i1 i2 i3
  rw [hbv]
  by_cases hb0 : 0 ≤ bv
  · rw [if_pos hb0]
    obtain ⟨_, st', h1, h2⟩ := i1 hb0
    exact ⟨by decide, st', by rw [h1, Nat.sub_zero], h2⟩
  · rw [if_neg hb0]
    by_cases he : e = 0
    · rw [if_pos he]
      obtain ⟨ls, st', j1, j2, j3, j4, j5, j6⟩ := i3 (by omega) he
      refine ⟨st', by rw [j3, Nat.add_comm], j4, ?_, j6⟩
      rw [j5, hf, List.nil_append, hR.2.2 he]
      refine (fields_lines _ ls 0 (n + 1) (fun l hl => ⟨(j2 l hl).1, fun c hc => ⟨?_, ((j2 l hl).2 c hc).1⟩⟩) ?_ ?_).symm
      · refine hbr c (List.mem_of_mem_take (i := n) ?_)
        rw [j1]
        exact List.mem_append_left _ (List.mem_flatMap.2 ⟨l, hl, List.mem_append_left _ hc⟩)
      · have h1 := congrArg List.length j1
        have h2 : ls.length ≤ (ls.flatMap (· ++ [13, 10])).length := by
          clear j1 j2 j5 h1
          induction ls with
          | nil => simp
          | cons l ls ih => simp only [List.flatMap_cons, List.length_append, List.length_cons, List.length_nil]; omega
        rw [List.length_take, List.length_append] at h1
        simp only [List.length_cons, List.length_nil] at h1
        omega
      · rw [List.drop_zero, extract_to, strOfNums_data]
        unfold u8L
        rw [← List.map_take, j1]
    · rw [if_neg he]
      obtain ⟨st', h1, h2⟩ := i2 (by omega) he
      exact ⟨he, st', by rw [h1, Nat.add_comm], h2⟩
theorem sizeL_er {s : List Int} : ∀ (f a n g : Nat) {a1 : Nat} {er : Int}, sizeL f s a n g = .error (a1, er) → er ≠ 0
  | 0, a, n, g, a1, er, h => by cases h; decide
  | f + 1, a, n, g, a1, er, h => by
    unfold sizeL at h
    split at h
    · split at h
      · split at h
        · cases h
        · cases h; decide
      · split at h
        · exact sizeL_er f _ _ _ h
        · cases h; decide
    · cases h; decide
theorem extL_er {s : List Int} {e0 : Int} : ∀ (f a n : Nat) {a1 : Nat} {er : Int}, extL f s e0 a n = .error (a1, er) → er ≠ 0
  | 0, a, n, a1, er, h => by cases h
  | f + 1, a, n, a1, er, h => by
    unfold extL at h
    split at h
    · split at h
      · split at h
        · exact extL_er f _ _ h
        · cases h; decide
      · cases h
    · cases h; decide
theorem extM_er {s : List Int} {e0 : Int} {a a1 : Nat} {er : Int} (h : extM s e0 a = .error (a1, er)) : er ≠ 0 := by
  unfold extM at h
  split at h
  · split at h
    · exact extL_er _ _ _ h
    · cases h
  · cases h; decide
theorem byteM_er {s : List Int} {c : Int} {a a1 : Nat} {er : Int} (h : byteM s c a = .error (a1, er)) : er ≠ 0 := by
  unfold byteM at h
  split at h
  · split at h
    · cases h
    · cases h; decide
  · cases h; decide
theorem endM_er {s : List Int} {a a1 : Nat} {er : Int} (h : endM s a = .error (a1, er)) : er ≠ 0 := by
  unfold endM at h
  split at h
  · exact byteM_er h
  · rename_i h1
    cases h
    exact byteM_er h1
theorem chunkM_er {s : List Int} {e0 : Int} {a a1 : Nat} {er : Int} (h : (chunkM s e0 a).1 = .error (a1, er)) : er ≠ 0 := by
  unfold chunkM at h
  split at h
  · rename_i h1
    cases h
    exact sizeL_er _ _ _ _ h1
  split at h
  · rename_i h1
    cases h
    exact extM_er h1
  split at h
  · rename_i h1
    cases h
    exact endM_er h1
  split at h
  · cases h
  split at h
  · unfold tailM at h
    split at h
    · rename_i h1
      cases h
      exact endM_er h1
    · cases h
  · cases h; decide
theorem chunksM_er {s : List Int} {e0 : Int} : ∀ (f a : Nat) (D : List Int) {a1 : Nat} {er : Int}, (chunksM f s e0 a D).1 = .error (a1, er) → er ≠ 0
  | 0, a, D, a1, er, h => by cases h; decide
  | f + 1, a, D, a1, er, h => by
    rw [chunksM] at h
    split at h
    · rename_i h1
      cases h
      exact chunkM_er (congrArg Prod.fst h1)
    · exact chunksM_er f _ _ h
    · cases h
theorem body_run (e0 e1 e2 : Nat) (s : List Int) (hb : ByteL s) :
    match bodyM s e0 e1 e2 with
    | (.error (a, er), D) => er ≠ 0 ∧ ∃ st', mrun (envM e0 e1 e2) minit s 0 = (st', a, er) ∧ st'.data = D
    | (.ok (l, a), D) => ∃ st', mrun (envM e0 e1 e2) minit s 0 = (st', a, 0) ∧ st'.data = D ∧ st'.fields = l ∧ st'.place = 11 := by
  have h := chunks_run (goodM e0 e1 e2) s (s.length + 1) 0 minit (by omega) (Nat.zero_le _) rfl rfl rfl (fun q x a1 hq hc => (chunkM_gt hb hq hc).1)
  rw [List.drop_zero] at h
  have hE0 : (envM e0 e1 e2).e0 = e0 := rfl
  have hD0 : (minit : MSt Fld).data = [] := rfl
  rw [hE0, hD0] at h
  unfold bodyM scannedM
  have her := fun a1 er => chunksM_er (s := s) (e0 := (e0 : Int)) (s.length + 1) 0 [] (a1 := a1) (er := er)
  generalize chunksM (s.length + 1) s (e0 : Int) 0 [] = q at *
  obtain ⟨m, D⟩ := q
  rcases m with ⟨a, er⟩ | ⟨u, a⟩
  · obtain ⟨st', h1, h2⟩ := h
    exact ⟨her a er rfl, st', h1, h2⟩
  · obtain ⟨ha, k, hr⟩ := h
    dsimp only
    have h2 := sectM_run e0 e1 e2 s hb a ha { (minit : MSt Fld) with place := 6, count := k, data := D } rfl rfl rfl rfl rfl
    cases hm : secM s e1 e2 a with
    | error x =>
      obtain ⟨a1, er⟩ := x
      rw [hm] at h2
      obtain ⟨h0, st', h3, h4⟩ := h2
      exact ⟨h0, st', hr.trans h3, h4⟩
    | ok x =>
      obtain ⟨l, a1⟩ := x
      rw [hm] at h2
      obtain ⟨st', h3, h4, h5, h6⟩ := h2
      exact ⟨st', hr.trans h3, h4, h5, h6⟩
end Go.Proofs.YtmmbpbgcobmifaaGreatDoorH
end
section
namespace Go.Proofs.YtmmbpbgcobmifaaGreatDoor.Pr
end Go.Proofs.YtmmbpbgcobmifaaGreatDoor.Pr
namespace Go.Proofs.YtmmbpbgcobmifaaGreatDoorH
open Go.RowKit Go.Proofs.YtmmbpbgcobmifaaGreatDoorW.PrintWords Go.Proofs.YtmmbpbgcobmifaaGreatDoorW.PrintLast Go.Proofs.YtmmbpbgcobmifaaGreatDoorW.PrintMore Go.Proofs.YtmmbpbgcobmifaaGreatDoor.Pr Go.Proofs.YtmmbpbgcobmifaaGreatDoorM
def toldB (r : MSt Fld × Nat × Int) : List Int × List Fld × Int × Int × Int := if r.2.2 = 0 then (r.1.data, r.1.fields, (r.2.1 : Int), (r.2.1 : Int), 0) else ([], [], 0, (r.2.1 : Int), r.2.2)
def runB (e0 e1 e2 : Nat) (s : List Int) : MSt Fld × Nat × Int := mrun (envM e0 e1 e2) minit s 0
theorem scanT_run (e0 e1 e2 : Nat) (s : List Int) (hb : ByteL s) : scanT s e0 e1 e2 = toldB (runB e0 e1 e2 s) ∧ (bodyM s e0 e1 e2).2 = (runB e0 e1 e2 s).1.data := by
  have h := body_run e0 e1 e2 s hb
  unfold scanT runB
  generalize bodyM s e0 e1 e2 = q at *
  obtain ⟨m, D⟩ := q
  rcases m with ⟨a, er⟩ | ⟨l, a⟩
  · obtain ⟨h0, st', h1, h2⟩ := h
    rw [h1]
    unfold toldB
    rw [if_neg h0]
    exact ⟨rfl, h2.symm⟩
  · obtain ⟨st', h1, h2, h3, h4⟩ := h
    rw [h1]
    unfold toldB
    rw [if_pos rfl]
    dsimp only
    rw [h2, h3]
    exact ⟨rfl, rfl⟩
theorem toldB_ok {r : MSt Fld × Nat × Int} (h : r.2.2 = 0) : toldB r = (r.1.data, r.1.fields, (r.2.1 : Int), (r.2.1 : Int), 0) := by unfold toldB; rw [if_pos h]
theorem toldB_err {r : MSt Fld × Nat × Int} (h : r.2.2 ≠ 0) : toldB r = ([], [], 0, (r.2.1 : Int), r.2.2) := by unfold toldB; rw [if_neg h]
theorem scanF_eq (e0 e1 e2 : Nat) (s : List Int) (hb : ByteL s) (hl : s.length ≤ 1073741824) (h0 : e0 ≤ 65536) (h1 : e1 ≤ 65536) (h2 : e2 ≤ 65536) : body_Scan.f s (e0 : Int) (e1 : Int) (e2 : Int) = some (toldB (runB e0 e1 e2 s)) := by
  unfold body_Scan.f
  rw [if_pos ⟨hl, byteB_iff.2 hb⟩, if_pos (by unfold rightL; simp only [Bool.and_eq_true, decide_eq_true_eq]; omega)]
  simp only [Int.toNat_natCast]
  rw [(scanT_run e0 e1 e2 s hb).1]
end Go.Proofs.YtmmbpbgcobmifaaGreatDoorH
end
section
namespace Go.Proofs.YtmmbpbgcobmifaaGreatDoor.Pr
open Go.RowKit Go.Proofs.YtmmbpbgcobmifaaGreatDoorH Go.Proofs.YtmmbpbgcobmifaaGreatDoorW.PrintWords Go.Proofs.YtmmbpbgcobmifaaGreatDoorW.PrintLast Go.Proofs.YtmmbpbgcobmifaaGreatDoorW.PrintMore
attribute [local go_sem] max2_int min2_int max_two min_two max_three min_three max_four min_four   -- for this text's walks alone
set_option linter.unusedVariables false
set_option linter.unusedSimpArgs false
def catchpitref03_Same.l0 : Nat → List Int → List Int → Int → Option (Bool)
  | 0, _, _, _ => none
  | k + 1, x0, x1, x5 => if x5 < (x0.length : Int) then (if 0 ≤ x5 then (if x5 < (x1.length : Int) then (if (rd x0 x5) = (rd x1 x5) then (catchpitref03_Same.l0 k x0 x1 (wrap64 (x5 + 1))) else (some false)) else (none)) else (none)) else (some true)
def catchpitref03_Same.f (k : Nat) (l0 : List Int) (l1 : List Int) : Option (Bool) := if (l0.length : Int) = (l1.length : Int) then (catchpitref03_Same.l0 k l0 l1 0) else (some false)
theorem catchpitref03_Same.mono_l : ∀ k, (∀ y0 y1 y2, LeO (catchpitref03_Same.l0 k y0 y1 y2) (catchpitref03_Same.l0 (k + 1) y0 y1 y2))
  | 0 => fun _ _ _ r h => by simp [catchpitref03_Same.l0] at h
  | k + 1 => by
    have ih0 := catchpitref03_Same.mono_l k
    · intro y0 y1 y2
      unfold catchpitref03_Same.l0
      repeat' first
      | (with_reducible exact ih0 _ _ _)
      | (with_reducible exact LeO.refl _)
      | (with_reducible exact LeO.none _)
      | (with_reducible refine LeO.ite ?_ ?_)
      | (with_reducible refine LeO.bind ?_ (fun _ => ?_))
      | exact ih0 _ _ _
      | exact LeO.none _
      | refine LeO.ite ?_ ?_
      | refine LeO.bind ?_ (fun _ => ?_)
theorem catchpitref03_Same.mono : ∀ a0 a1 k, LeO (catchpitref03_Same.f k a0 a1) (catchpitref03_Same.f (k + 1) a0 a1) := by
  intro a0 a1 k
  have ih0 := catchpitref03_Same.mono_l k
  unfold catchpitref03_Same.f
  repeat' first
      | (with_reducible exact ih0 _ _ _)
      | (with_reducible exact LeO.refl _)
      | (with_reducible exact LeO.none _)
      | (with_reducible refine LeO.ite ?_ ?_)
      | (with_reducible refine LeO.bind ?_ (fun _ => ?_))
      | exact ih0 _ _ _
      | exact LeO.none _
      | refine LeO.ite ?_ ?_
      | refine LeO.bind ?_ (fun _ => ?_)
end Go.Proofs.YtmmbpbgcobmifaaGreatDoor.Pr
end
section
namespace Go.Proofs.YtmmbpbgcobmifaaGreatDoor.Pr
open Go.RowKit Go.Proofs.YtmmbpbgcobmifaaGreatDoorH Go.Proofs.YtmmbpbgcobmifaaGreatDoorW.PrintWords Go.Proofs.YtmmbpbgcobmifaaGreatDoorW.PrintLast Go.Proofs.YtmmbpbgcobmifaaGreatDoorW.PrintMore
attribute [local go_sem] max2_int min2_int max_two min_two max_three min_three max_four min_four   -- for this text's walks alone
set_option linter.unusedVariables false
set_option linter.unusedSimpArgs false
def catchpitref01_Digit.l0 : Nat → Int → ByteArray → ByteArray → Int → Option (Int)
  | 0, _, _, _, _ => none
  | k + 1, x0, x3, x4, x5 => if x5 < 16 then (if 0 ≤ x5 then (if x5 < (x3.size : Int) then (if (bt x3 x5) = x0 then (some x5) else (if x5 < (x4.size : Int) then (if (bt x4 x5) = x0 then (some x5) else (catchpitref01_Digit.l0 k x0 x3 x4 (wrap64 (x5 + 1)))) else (none))) else (none)) else (none)) else (some (-1))
def catchpitref01_Digit.f (k : Nat) (a0 : Int) : Option (Int) := catchpitref01_Digit.l0 k a0 (⟨#[48, 49, 50, 51, 52, 53, 54, 55, 56, 57, 97, 98, 99, 100, 101, 102]⟩ : ByteArray) (⟨#[48, 49, 50, 51, 52, 53, 54, 55, 56, 57, 65, 66, 67, 68, 69, 70]⟩ : ByteArray) 0
theorem catchpitref01_Digit.mono_l : ∀ k, (∀ y0 y1 y2 y3, LeO (catchpitref01_Digit.l0 k y0 y1 y2 y3) (catchpitref01_Digit.l0 (k + 1) y0 y1 y2 y3))
  | 0 => fun _ _ _ _ r h => by simp [catchpitref01_Digit.l0] at h
  | k + 1 => by
    have ih0 := catchpitref01_Digit.mono_l k
    · intro y0 y1 y2 y3
      unfold catchpitref01_Digit.l0
      repeat' first
      | (with_reducible exact ih0 _ _ _ _)
      | (with_reducible exact LeO.refl _)
      | (with_reducible exact LeO.none _)
      | (with_reducible refine LeO.ite ?_ ?_)
      | (with_reducible refine LeO.bind ?_ (fun _ => ?_))
      | exact ih0 _ _ _ _
      | exact LeO.none _
      | refine LeO.ite ?_ ?_
      | refine LeO.bind ?_ (fun _ => ?_)
theorem catchpitref01_Digit.mono : ∀ a0 k, LeO (catchpitref01_Digit.f k a0) (catchpitref01_Digit.f (k + 1) a0) := by
  intro a0 k
  have ih0 := catchpitref01_Digit.mono_l k
  unfold catchpitref01_Digit.f
  repeat' first
      | (with_reducible exact ih0 _ _ _ _)
      | (with_reducible exact LeO.refl _)
      | (with_reducible exact LeO.none _)
      | (with_reducible refine LeO.ite ?_ ?_)
      | (with_reducible refine LeO.bind ?_ (fun _ => ?_))
      | exact ih0 _ _ _ _
      | exact LeO.none _
      | refine LeO.ite ?_ ?_
      | refine LeO.bind ?_ (fun _ => ?_)
set_option maxHeartbeats 8000000 in
set_option maxRecDepth 100000 in
theorem catchpitref01_Digit.calls (k : Nat) (a0 : Int) (r : Int) (w : World) (hG : TabOk w) (h : catchpitref01_Digit.f k a0 = some r) :
    Calls Tryz.prog 54 #[.int .u8 a0] w fun e w' => e = .returned (.int .i64 r) ∧ Drawn0 w w' := by
  have H : (catchpitref01_Digit.l0 k a0 (⟨#[48, 49, 50, 51, 52, 53, 54, 55, 56, 57, 97, 98, 99, 100, 101, 102]⟩ : ByteArray) (⟨#[48, 49, 50, 51, 52, 53, 54, 55, 56, 57, 65, 66, 67, 68, 69, 70]⟩ : ByteArray) 0) = some r := h
  clear h
  have H' := Aside0.mk H
  clear H
  go_enter Tryz.func54, Tryz.ntmps54
  go_wp2
  go_loopg [5] k (fun kq v5 w' => ∃ (x5_1 : Int), v5 = .int .i64 x5_1 ∧ Aside0 (catchpitref01_Digit.l0 kq a0 (⟨#[48, 49, 50, 51, 52, 53, 54, 55, 56, 57, 97, 98, 99, 100, 101, 102]⟩ : ByteArray) (⟨#[48, 49, 50, 51, 52, 53, 54, 55, 56, 57, 65, 66, 67, 68, 69, 70]⟩ : ByteArray) x5_1 = some r) ∧ Aside0 (kq ≤ k) ∧ Drawn0 w w')
  case atStart => exact ⟨(0), (by first | rfl | (simp; done) | (simp [*]; done)), H', ⟨Nat.le_refl _⟩, by repeat (first | exact Drawn0.refl _ | apply Drawn0.step)⟩
  case round =>
    clear H'
    obtain ⟨x5_1, rfl, HA, HK1, ⟨m1, rfl⟩⟩ := hrel
    cases gk with
    | zero => exact absurd HA.out (by simp [catchpitref01_Digit.l0])
    | succ k1 =>
      have H := HA.out
      clear HA
      simp only [catchpitref01_Digit.l0] at H
      by_cases c2 : x5_1 < 16
      · rw [if_pos c2] at H
        have c2b0 : decide (x5_1 < 16) = true := decide_eq_true c2
        clear c2
        by_cases c3 : 0 ≤ x5_1
        · rw [if_pos c3] at H
          have c3b0 : decide (0 ≤ x5_1) = true := decide_eq_true c3
          clear c3
          by_cases c4 : x5_1 < ((⟨#[48, 49, 50, 51, 52, 53, 54, 55, 56, 57, 97, 98, 99, 100, 101, 102]⟩ : ByteArray).size : Int)
          · rw [if_pos c4] at H
            have c4b0 : decide (x5_1 < ((⟨#[48, 49, 50, 51, 52, 53, 54, 55, 56, 57, 97, 98, 99, 100, 101, 102]⟩ : ByteArray).size : Int)) = true := decide_eq_true c4
            clear c4
            by_cases c6 : (bt (⟨#[48, 49, 50, 51, 52, 53, 54, 55, 56, 57, 97, 98, 99, 100, 101, 102]⟩ : ByteArray) x5_1) = a0
            · rw [if_pos c6] at H
              have c6b0 : ((bt (⟨#[48, 49, 50, 51, 52, 53, 54, 55, 56, 57, 97, 98, 99, 100, 101, 102]⟩ : ByteArray) x5_1) == a0) = true := beq_iff_eq.mpr c6
              have c6b1 : ((bt (⟨#[48, 49, 50, 51, 52, 53, 54, 55, 56, 57, 97, 98, 99, 100, 101, 102]⟩ : ByteArray) x5_1) != a0) = false := bne_eq_false_iff_eq.mpr c6
              clear c6
              obtain rfl := Option.some.inj H
              have p5 : 0 ≤ (x5_1 : Int) := of_decide_eq_true (by first | (with_reducible assumption) | assumption)
              have q5 : x5_1 < (16 : Int) := of_decide_eq_true (by first | (with_reducible assumption) | assumption)
              have hx5 := bt_at (⟨#[48, 49, 50, 51, 52, 53, 54, 55, 56, 57, 97, 98, 99, 100, 101, 102]⟩ : ByteArray) x5_1
              replace p5 := eq_true p5
              replace q5 := eq_true q5
              go_wp2
              go_ret
              exact ⟨by first | rfl | (simp; done) | (simp [*]; done), by repeat (first | exact Drawn0.refl _ | apply Drawn0.step)⟩
            · rw [if_neg c6] at H
              have c6b0 : ((bt (⟨#[48, 49, 50, 51, 52, 53, 54, 55, 56, 57, 97, 98, 99, 100, 101, 102]⟩ : ByteArray) x5_1) == a0) = false := beq_eq_false_iff_ne.mpr c6
              have c6b1 : ((bt (⟨#[48, 49, 50, 51, 52, 53, 54, 55, 56, 57, 97, 98, 99, 100, 101, 102]⟩ : ByteArray) x5_1) != a0) = true := bne_iff_ne.mpr c6
              by_cases c7 : x5_1 < ((⟨#[48, 49, 50, 51, 52, 53, 54, 55, 56, 57, 65, 66, 67, 68, 69, 70]⟩ : ByteArray).size : Int)
              · rw [if_pos c7] at H
                have c7b0 : decide (x5_1 < ((⟨#[48, 49, 50, 51, 52, 53, 54, 55, 56, 57, 65, 66, 67, 68, 69, 70]⟩ : ByteArray).size : Int)) = true := decide_eq_true c7
                clear c7
                by_cases c9 : (bt (⟨#[48, 49, 50, 51, 52, 53, 54, 55, 56, 57, 65, 66, 67, 68, 69, 70]⟩ : ByteArray) x5_1) = a0
                · rw [if_pos c9] at H
                  have c9b0 : ((bt (⟨#[48, 49, 50, 51, 52, 53, 54, 55, 56, 57, 65, 66, 67, 68, 69, 70]⟩ : ByteArray) x5_1) == a0) = true := beq_iff_eq.mpr c9
                  have c9b1 : ((bt (⟨#[48, 49, 50, 51, 52, 53, 54, 55, 56, 57, 65, 66, 67, 68, 69, 70]⟩ : ByteArray) x5_1) != a0) = false := bne_eq_false_iff_eq.mpr c9
                  clear c9
                  obtain rfl := Option.some.inj H
                  have p5 : 0 ≤ (x5_1 : Int) := of_decide_eq_true (by first | (with_reducible assumption) | assumption)
                  have q5 : x5_1 < (16 : Int) := of_decide_eq_true (by first | (with_reducible assumption) | assumption)
                  have hx5 := bt_at (⟨#[48, 49, 50, 51, 52, 53, 54, 55, 56, 57, 97, 98, 99, 100, 101, 102]⟩ : ByteArray) x5_1
                  replace p5 := eq_true p5
                  replace q5 := eq_true q5
                  have p8 : 0 ≤ (x5_1 : Int) := of_decide_eq_true (by first | (with_reducible assumption) | assumption)
                  have q8 : x5_1 < (16 : Int) := of_decide_eq_true (by first | (with_reducible assumption) | assumption)
                  have hx8 := bt_at (⟨#[48, 49, 50, 51, 52, 53, 54, 55, 56, 57, 65, 66, 67, 68, 69, 70]⟩ : ByteArray) x5_1
                  replace p8 := eq_true p8
                  replace q8 := eq_true q8
                  go_wp2
                  go_ret
                  exact ⟨by first | rfl | (simp; done) | (simp [*]; done), by repeat (first | exact Drawn0.refl _ | apply Drawn0.step)⟩
                · rw [if_neg c9] at H
                  have c9b0 : ((bt (⟨#[48, 49, 50, 51, 52, 53, 54, 55, 56, 57, 65, 66, 67, 68, 69, 70]⟩ : ByteArray) x5_1) == a0) = false := beq_eq_false_iff_ne.mpr c9
                  have c9b1 : ((bt (⟨#[48, 49, 50, 51, 52, 53, 54, 55, 56, 57, 65, 66, 67, 68, 69, 70]⟩ : ByteArray) x5_1) != a0) = true := bne_iff_ne.mpr c9
                  have H' := Aside0.mk H
                  clear H
                  have p5 : 0 ≤ (x5_1 : Int) := of_decide_eq_true (by first | (with_reducible assumption) | assumption)
                  have q5 : x5_1 < (16 : Int) := of_decide_eq_true (by first | (with_reducible assumption) | assumption)
                  have hx5 := bt_at (⟨#[48, 49, 50, 51, 52, 53, 54, 55, 56, 57, 97, 98, 99, 100, 101, 102]⟩ : ByteArray) x5_1
                  replace p5 := eq_true p5
                  replace q5 := eq_true q5
                  have p8 : 0 ≤ (x5_1 : Int) := of_decide_eq_true (by first | (with_reducible assumption) | assumption)
                  have q8 : x5_1 < (16 : Int) := of_decide_eq_true (by first | (with_reducible assumption) | assumption)
                  have hx8 := bt_at (⟨#[48, 49, 50, 51, 52, 53, 54, 55, 56, 57, 65, 66, 67, 68, 69, 70]⟩ : ByteArray) x5_1
                  replace p8 := eq_true p8
                  replace q8 := eq_true q8
                  go_wp2
                  go_roundg k1
                  case measure => have := HK1.out; omega
                  case rel => exact ⟨(wrap64 (x5_1 + 1)), (by first | rfl | (simp; done) | (simp [*]; done)), H', ⟨by have := HK1.out; omega⟩, by repeat (first | exact Drawn0.refl _ | apply Drawn0.step)⟩
              · rw [if_neg c7] at H
                exact absurd H (by simp)
          · rw [if_neg c4] at H
            exact absurd H (by simp)
        · rw [if_neg c3] at H
          exact absurd H (by simp)
      · rw [if_neg c2] at H
        have c2b0 : decide (x5_1 < 16) = false := decide_eq_false c2
        clear c2
        obtain rfl := Option.some.inj H
        go_wp2
        go_ret
        exact ⟨by first | rfl | (simp; done) | (simp [*]; done), by repeat (first | exact Drawn0.refl _ | apply Drawn0.step)⟩
end Go.Proofs.YtmmbpbgcobmifaaGreatDoor.Pr
end
section
namespace Go.Proofs.YtmmbpbgcobmifaaGreatDoor.Pr
end Go.Proofs.YtmmbpbgcobmifaaGreatDoor.Pr
namespace Go.Proofs.YtmmbpbgcobmifaaGreatDoorH
set_option linter.unusedVariables false
set_option linter.unusedSimpArgs false
open Go Go.RowKit Go.Proofs.YtmmbpbgcobmifaaGreatDoorW.PrintWords Go.Proofs.YtmmbpbgcobmifaaGreatDoorW.PrintLast Go.Proofs.YtmmbpbgcobmifaaGreatDoorW.PrintMore Go.Proofs.YtmmbpbgcobmifaaGreatDoor.Pr Go.Proofs.YtmmbpbgcobmifaaGreatDoorM
abbrev stV (p n co li sz : Int) (tx : ByteArray) (dv fv : Value) : Value := .agg #[.int .i64 p, .int .u64 n, .int .i64 co, .int .i64 li, .int .i64 sz, .string tx, dv, fv]
theorem blk3 (w : World) (a b : Obj) (cs : Array Value) (t : TypeId) : (((w.alloc a).alloc b).alloc (.cells cs t)).heap[w.heap.size + 1 + 1]? = some (.cells cs t (0, 0)) := by
  have := World.alloc_heap_new ((w.alloc a).alloc b) (.cells cs t)
  rwa [World.size_alloc, World.size_alloc] at this
theorem below3 {w w2 : World} (h : Below w.heap.size w w2) (a b c : Obj) : Below w.heap.size w (((w2.alloc a).alloc b).alloc c) := below_alloc (below_alloc (below_alloc h a) b) c
theorem drawn3 {w w4 : World} {a b c : Obj} (h : Drawn0 (((w.alloc a).alloc b).alloc c) w4) : ∃ w2, w4 = (((w2.alloc a).alloc b).alloc c) ∧ w2.heap.size = w.heap.size ∧ Below w.heap.size w w2 := by
  obtain ⟨n, rfl⟩ := h.out
  exact ⟨w.drewN n, rfl, rfl, pw_below_drewN (Below.refl _ _) n⟩
set_option maxHeartbeats 4000000 in
set_option maxRecDepth 100000 in
theorem st8_0a (n li sz : Int) (tx : ByteArray) (A0 A1 : Option Addr) (n0 n1 k0 k1 : Nat) (c l0 l1 l2 : Int) (w : World) (hG : TabOk w) (k : Nat) (dg : Int) (hdig : catchpitref01_Digit.f k c = some dg) (h0 : 0 ≤ dg) :
    Calls Tryz.prog 43 #[stV 0 n 16 li sz tx (.slice A0 n0 k0) (.slice A1 n1 k1), .int .u8 c, .agg #[.int .i64 l0, .int .i64 l1, .int .i64 l2]] w fun e w' => e = .returned (.tuple #[stV 0 n 16 li sz tx (.slice A0 n0 k0) (.slice A1 n1 k1), .int .i64 3]) ∧ Below w.heap.size w w' := by
  have HC_Dig := Aside0.mk (fun (W : World) (h : Below w.heap.size w W) => catchpitref01_Digit.calls k c dg W (hG.below h) hdig)
  clear hG
  go_enter Tryz.func43, Tryz.ntmps43
  go_wp2_with fail
  refine (HC_Dig.out _ (below3 (Below.refl _ _) _ _ _)).mono ?_
  rintro e w4 ⟨rfl, hd4⟩
  obtain ⟨w2, rfl, hs2, hb2⟩ := drawn3 hd4
  clear hd4
  go_wp2
  refine bodyPost_ret (results_ct rfl _ _ (w.heap.size + 1 + 1) 82 _ (0, 0) _ (by rfl) (by rw [← hs2]; exact blk3 w2 _ _ _ _) Tryz.underlying82 rfl (by kernel_rfl)) rfl ⟨rfl, below3 hb2 _ _ _⟩
set_option maxHeartbeats 4000000 in
set_option maxRecDepth 100000 in
theorem st8_0d (n li sz : Int) (tx : ByteArray) (A0 A1 : Option Addr) (n0 n1 k0 k1 : Nat) (c l0 l1 l2 : Int) (w : World) (hG : TabOk w) (k : Nat) (dg : Int) (hdig : catchpitref01_Digit.f k c = some dg) (h0 : ¬ 0 ≤ dg) :
    Calls Tryz.prog 43 #[stV 0 n 0 li sz tx (.slice A0 n0 k0) (.slice A1 n1 k1), .int .u8 c, .agg #[.int .i64 l0, .int .i64 l1, .int .i64 l2]] w fun e w' => e = .returned (.tuple #[stV 0 n 0 li sz tx (.slice A0 n0 k0) (.slice A1 n1 k1), .int .i64 2]) ∧ Below w.heap.size w w' := by
  have HC_Dig := Aside0.mk (fun (W : World) (h : Below w.heap.size w W) => catchpitref01_Digit.calls k c dg W (hG.below h) hdig)
  clear hG
  go_enter Tryz.func43, Tryz.ntmps43
  go_wp2_with fail
  refine (HC_Dig.out _ (below3 (Below.refl _ _) _ _ _)).mono ?_
  rintro e w4 ⟨rfl, hd4⟩
  obtain ⟨w2, rfl, hs2, hb2⟩ := drawn3 hd4
  clear hd4
  go_wp2
  refine bodyPost_ret (results_ct rfl _ _ (w.heap.size + 1 + 1) 82 _ (0, 0) _ (by rfl) (by rw [← hs2]; exact blk3 w2 _ _ _ _) Tryz.underlying82 rfl (by kernel_rfl)) rfl ⟨rfl, below3 hb2 _ _ _⟩
set_option maxHeartbeats 4000000 in
set_option maxRecDepth 100000 in
theorem st8_0e (n co li sz : Int) (tx : ByteArray) (A0 A1 : Option Addr) (n0 n1 k0 k1 : Nat) (c l0 l1 l2 : Int) (w : World) (hG : TabOk w) (k : Nat) (dg : Int) (hdig : catchpitref01_Digit.f k c = some dg) (h0 : ¬ 0 ≤ dg) (hco : (co == 0) = false) (h1 : (c != 59) = true) (h2 : (c != 13) = true) :
    Calls Tryz.prog 43 #[stV 0 n co li sz tx (.slice A0 n0 k0) (.slice A1 n1 k1), .int .u8 c, .agg #[.int .i64 l0, .int .i64 l1, .int .i64 l2]] w fun e w' => e = .returned (.tuple #[stV 0 n co li sz tx (.slice A0 n0 k0) (.slice A1 n1 k1), .int .i64 2]) ∧ Below w.heap.size w w' := by
  have HC_Dig := Aside0.mk (fun (W : World) (h : Below w.heap.size w W) => catchpitref01_Digit.calls k c dg W (hG.below h) hdig)
  clear hG
  go_enter Tryz.func43, Tryz.ntmps43
  go_wp2_with fail
  refine (HC_Dig.out _ (below3 (Below.refl _ _) _ _ _)).mono ?_
  rintro e w4 ⟨rfl, hd4⟩
  obtain ⟨w2, rfl, hs2, hb2⟩ := drawn3 hd4
  clear hd4
  go_wp2
  refine bodyPost_ret (results_ct rfl _ _ (w.heap.size + 1 + 1) 82 _ (0, 0) _ (by rfl) (by rw [← hs2]; exact blk3 w2 _ _ _ _) Tryz.underlying82 rfl (by kernel_rfl)) rfl ⟨rfl, below3 hb2 _ _ _⟩
set_option maxHeartbeats 4000000 in
set_option maxRecDepth 100000 in
theorem st8_0f (n co li sz : Int) (tx : ByteArray) (A0 A1 : Option Addr) (n0 n1 k0 k1 : Nat) (c l0 l1 l2 : Int) (w : World) (hG : TabOk w) (k : Nat) (dg : Int) (hdig : catchpitref01_Digit.f k c = some dg) (h0 : ¬ 0 ≤ dg) (hco : (co == 0) = false) (h1 : (c != 59) = true) (h2 : (c != 13) = false) (h3 : (c == 13) = true) :
    Calls Tryz.prog 43 #[stV 0 n co li sz tx (.slice A0 n0 k0) (.slice A1 n1 k1), .int .u8 c, .agg #[.int .i64 l0, .int .i64 l1, .int .i64 l2]] w fun e w' => e = .returned (.tuple #[stV 2 n co li sz tx (.slice A0 n0 k0) (.slice A1 n1 k1), .int .i64 0]) ∧ Below w.heap.size w w' := by
  have HC_Dig := Aside0.mk (fun (W : World) (h : Below w.heap.size w W) => catchpitref01_Digit.calls k c dg W (hG.below h) hdig)
  clear hG
  go_enter Tryz.func43, Tryz.ntmps43
  go_wp2_with fail
  refine (HC_Dig.out _ (below3 (Below.refl _ _) _ _ _)).mono ?_
  rintro e w4 ⟨rfl, hd4⟩
  obtain ⟨w2, rfl, hs2, hb2⟩ := drawn3 hd4
  clear hd4
  go_wp2
  refine bodyPost_ret (results_ct rfl _ _ (w.heap.size + 1 + 1) 82 _ (0, 0) _ (by rfl) (by rw [← hs2]; exact blk3 w2 _ _ _ _) Tryz.underlying82 rfl (by kernel_rfl)) rfl ⟨rfl, below3 hb2 _ _ _⟩
set_option maxHeartbeats 4000000 in
set_option maxRecDepth 100000 in
theorem st8_0g (n co li sz : Int) (tx : ByteArray) (A0 A1 : Option Addr) (n0 n1 k0 k1 : Nat) (c l0 l1 l2 : Int) (w : World) (hG : TabOk w) (k : Nat) (dg : Int) (hdig : catchpitref01_Digit.f k c = some dg) (h0 : ¬ 0 ≤ dg) (hco : (co == 0) = false) (h1 : (c != 59) = false) (h3 : (c == 13) = false) (h4 : l0 < 1) :
    Calls Tryz.prog 43 #[stV 0 n co li sz tx (.slice A0 n0 k0) (.slice A1 n1 k1), .int .u8 c, .agg #[.int .i64 l0, .int .i64 l1, .int .i64 l2]] w fun e w' => e = .returned (.tuple #[stV 0 n co li sz tx (.slice A0 n0 k0) (.slice A1 n1 k1), .int .i64 5]) ∧ Below w.heap.size w w' := by
  have HC_Dig := Aside0.mk (fun (W : World) (h : Below w.heap.size w W) => catchpitref01_Digit.calls k c dg W (hG.below h) hdig)
  clear hG
  go_enter Tryz.func43, Tryz.ntmps43
  go_wp2_with fail
  refine (HC_Dig.out _ (below3 (Below.refl _ _) _ _ _)).mono ?_
  rintro e w4 ⟨rfl, hd4⟩
  obtain ⟨w2, rfl, hs2, hb2⟩ := drawn3 hd4
  clear hd4
  go_wp2
  refine bodyPost_ret (results_ct rfl _ _ (w.heap.size + 1 + 1) 82 _ (0, 0) _ (by rfl) (by rw [← hs2]; exact blk3 w2 _ _ _ _) Tryz.underlying82 rfl (by kernel_rfl)) rfl ⟨rfl, below3 hb2 _ _ _⟩
set_option maxHeartbeats 4000000 in
set_option maxRecDepth 100000 in
theorem st8_0h (n co li sz : Int) (tx : ByteArray) (A0 A1 : Option Addr) (n0 n1 k0 k1 : Nat) (c l0 l1 l2 : Int) (w : World) (hG : TabOk w) (k : Nat) (dg : Int) (hdig : catchpitref01_Digit.f k c = some dg) (h0 : ¬ 0 ≤ dg) (hco : (co == 0) = false) (h1 : (c != 59) = false) (h3 : (c == 13) = false) (h4 : ¬ l0 < 1) :
    Calls Tryz.prog 43 #[stV 0 n co li sz tx (.slice A0 n0 k0) (.slice A1 n1 k1), .int .u8 c, .agg #[.int .i64 l0, .int .i64 l1, .int .i64 l2]] w fun e w' => e = .returned (.tuple #[stV 1 n 1 li sz tx (.slice A0 n0 k0) (.slice A1 n1 k1), .int .i64 0]) ∧ Below w.heap.size w w' := by
  have HC_Dig := Aside0.mk (fun (W : World) (h : Below w.heap.size w W) => catchpitref01_Digit.calls k c dg W (hG.below h) hdig)
  clear hG
  go_enter Tryz.func43, Tryz.ntmps43
  go_wp2_with fail
  refine (HC_Dig.out _ (below3 (Below.refl _ _) _ _ _)).mono ?_
  rintro e w4 ⟨rfl, hd4⟩
  obtain ⟨w2, rfl, hs2, hb2⟩ := drawn3 hd4
  clear hd4
  go_wp2
  refine bodyPost_ret (results_ct rfl _ _ (w.heap.size + 1 + 1) 82 _ (0, 0) _ (by rfl) (by rw [← hs2]; exact blk3 w2 _ _ _ _) Tryz.underlying82 rfl (by kernel_rfl)) rfl ⟨rfl, below3 hb2 _ _ _⟩
set_option maxHeartbeats 4000000 in
set_option maxRecDepth 100000 in
theorem st8_1a (n co li sz : Int) (tx : ByteArray) (A0 A1 : Option Addr) (n0 n1 k0 k1 : Nat) (c l0 l1 l2 : Int) (w : World) (hG : TabOk w) (h3 : (c == 13) = true) :
    Calls Tryz.prog 43 #[stV 1 n co li sz tx (.slice A0 n0 k0) (.slice A1 n1 k1), .int .u8 c, .agg #[.int .i64 l0, .int .i64 l1, .int .i64 l2]] w fun e w' => e = .returned (.tuple #[stV 2 n co li sz tx (.slice A0 n0 k0) (.slice A1 n1 k1), .int .i64 0]) ∧ Below w.heap.size w w' := by
  clear hG
  go_enter Tryz.func43, Tryz.ntmps43
  go_wp2
  refine bodyPost_ret (results_ct rfl _ _ (w.heap.size + 1 + 1) 82 _ (0, 0) _ (by rfl) (by exact blk3 w _ _ _ _) Tryz.underlying82 rfl (by kernel_rfl)) rfl ⟨rfl, below3 (Below.refl _ _) _ _ _⟩
set_option maxHeartbeats 4000000 in
set_option maxRecDepth 100000 in
theorem st8_1b (n co li sz : Int) (tx : ByteArray) (A0 A1 : Option Addr) (n0 n1 k0 k1 : Nat) (c l0 l1 l2 : Int) (w : World) (hG : TabOk w) (h3 : (c == 13) = false) (hbyt : catchpitref02_Byte.f c = some false) :
    Calls Tryz.prog 43 #[stV 1 n co li sz tx (.slice A0 n0 k0) (.slice A1 n1 k1), .int .u8 c, .agg #[.int .i64 l0, .int .i64 l1, .int .i64 l2]] w fun e w' => e = .returned (.tuple #[stV 1 n co li sz tx (.slice A0 n0 k0) (.slice A1 n1 k1), .int .i64 2]) ∧ Below w.heap.size w w' := by
  have HC_Byt := Aside0.mk (fun (W : World) (h : Below w.heap.size w W) => catchpitref02_Byte.calls c false W (hG.below h) hbyt)
  clear hG
  go_enter Tryz.func43, Tryz.ntmps43
  go_wp2_with fail
  refine (HC_Byt.out _ (below3 (Below.refl _ _) _ _ _)).mono ?_
  rintro e w4 ⟨rfl, hd4⟩
  obtain ⟨w2, rfl, hs2, hb2⟩ := drawn3 hd4
  clear hd4
  go_wp2
  refine bodyPost_ret (results_ct rfl _ _ (w.heap.size + 1 + 1) 82 _ (0, 0) _ (by rfl) (by rw [← hs2]; exact blk3 w2 _ _ _ _) Tryz.underlying82 rfl (by kernel_rfl)) rfl ⟨rfl, below3 hb2 _ _ _⟩
set_option maxHeartbeats 4000000 in
set_option maxRecDepth 100000 in
theorem st8_1c (n co li sz : Int) (tx : ByteArray) (A0 A1 : Option Addr) (n0 n1 k0 k1 : Nat) (c l0 l1 l2 : Int) (w : World) (hG : TabOk w) (h3 : (c == 13) = false) (hbyt : catchpitref02_Byte.f c = some true) (h4 : l0 ≤ co) :
    Calls Tryz.prog 43 #[stV 1 n co li sz tx (.slice A0 n0 k0) (.slice A1 n1 k1), .int .u8 c, .agg #[.int .i64 l0, .int .i64 l1, .int .i64 l2]] w fun e w' => e = .returned (.tuple #[stV 1 n co li sz tx (.slice A0 n0 k0) (.slice A1 n1 k1), .int .i64 5]) ∧ Below w.heap.size w w' := by
  have HC_Byt := Aside0.mk (fun (W : World) (h : Below w.heap.size w W) => catchpitref02_Byte.calls c true W (hG.below h) hbyt)
  clear hG
  go_enter Tryz.func43, Tryz.ntmps43
  go_wp2_with fail
  refine (HC_Byt.out _ (below3 (Below.refl _ _) _ _ _)).mono ?_
  rintro e w4 ⟨rfl, hd4⟩
  obtain ⟨w2, rfl, hs2, hb2⟩ := drawn3 hd4
  clear hd4
  go_wp2
  refine bodyPost_ret (results_ct rfl _ _ (w.heap.size + 1 + 1) 82 _ (0, 0) _ (by rfl) (by rw [← hs2]; exact blk3 w2 _ _ _ _) Tryz.underlying82 rfl (by kernel_rfl)) rfl ⟨rfl, below3 hb2 _ _ _⟩
set_option maxHeartbeats 4000000 in
set_option maxRecDepth 100000 in
theorem st8_1d (n co li sz : Int) (tx : ByteArray) (A0 A1 : Option Addr) (n0 n1 k0 k1 : Nat) (c l0 l1 l2 : Int) (w : World) (hG : TabOk w) (h3 : (c == 13) = false) (hbyt : catchpitref02_Byte.f c = some true) (h4 : ¬ l0 ≤ co) (hw : IntKind.i64.wrap (co + 1) = co + 1) :
    Calls Tryz.prog 43 #[stV 1 n co li sz tx (.slice A0 n0 k0) (.slice A1 n1 k1), .int .u8 c, .agg #[.int .i64 l0, .int .i64 l1, .int .i64 l2]] w fun e w' => e = .returned (.tuple #[stV 1 n (co + 1) li sz tx (.slice A0 n0 k0) (.slice A1 n1 k1), .int .i64 0]) ∧ Below w.heap.size w w' := by
  have HC_Byt := Aside0.mk (fun (W : World) (h : Below w.heap.size w W) => catchpitref02_Byte.calls c true W (hG.below h) hbyt)
  clear hG
  go_enter Tryz.func43, Tryz.ntmps43
  go_wp2_with fail
  refine (HC_Byt.out _ (below3 (Below.refl _ _) _ _ _)).mono ?_
  rintro e w4 ⟨rfl, hd4⟩
  obtain ⟨w2, rfl, hs2, hb2⟩ := drawn3 hd4
  clear hd4
  go_wp2
  refine bodyPost_ret (results_ct rfl _ _ (w.heap.size + 1 + 1) 82 _ (0, 0) _ (by rfl) (by rw [← hs2]; exact blk3 w2 _ _ _ _) Tryz.underlying82 rfl (by kernel_rfl)) rfl ⟨rfl, below3 hb2 _ _ _⟩
set_option maxHeartbeats 4000000 in
set_option maxRecDepth 100000 in
theorem st8_2a (n co li sz : Int) (tx : ByteArray) (A0 A1 : Option Addr) (n0 n1 k0 k1 : Nat) (c l0 l1 l2 : Int) (w : World) (hG : TabOk w) (h3 : (c != 10) = true) :
    Calls Tryz.prog 43 #[stV 2 n co li sz tx (.slice A0 n0 k0) (.slice A1 n1 k1), .int .u8 c, .agg #[.int .i64 l0, .int .i64 l1, .int .i64 l2]] w fun e w' => e = .returned (.tuple #[stV 2 n co li sz tx (.slice A0 n0 k0) (.slice A1 n1 k1), .int .i64 2]) ∧ Below w.heap.size w w' := by
  clear hG
  go_enter Tryz.func43, Tryz.ntmps43
  go_wp2
  refine bodyPost_ret (results_ct rfl _ _ (w.heap.size + 1 + 1) 82 _ (0, 0) _ (by rfl) (by exact blk3 w _ _ _ _) Tryz.underlying82 rfl (by kernel_rfl)) rfl ⟨rfl, below3 (Below.refl _ _) _ _ _⟩
set_option maxHeartbeats 4000000 in
set_option maxRecDepth 100000 in
theorem st8_5a (n co li sz : Int) (tx : ByteArray) (A0 A1 : Option Addr) (n0 n1 k0 k1 : Nat) (c l0 l1 l2 : Int) (w : World) (hG : TabOk w) (h3 : (c != 10) = true) :
    Calls Tryz.prog 43 #[stV 5 n co li sz tx (.slice A0 n0 k0) (.slice A1 n1 k1), .int .u8 c, .agg #[.int .i64 l0, .int .i64 l1, .int .i64 l2]] w fun e w' => e = .returned (.tuple #[stV 5 n co li sz tx (.slice A0 n0 k0) (.slice A1 n1 k1), .int .i64 2]) ∧ Below w.heap.size w w' := by
  clear hG
  go_enter Tryz.func43, Tryz.ntmps43
  go_wp2
  refine bodyPost_ret (results_ct rfl _ _ (w.heap.size + 1 + 1) 82 _ (0, 0) _ (by rfl) (by exact blk3 w _ _ _ _) Tryz.underlying82 rfl (by kernel_rfl)) rfl ⟨rfl, below3 (Below.refl _ _) _ _ _⟩
set_option maxHeartbeats 4000000 in
set_option maxRecDepth 100000 in
theorem st8_9a (n co li sz : Int) (tx : ByteArray) (A0 A1 : Option Addr) (n0 n1 k0 k1 : Nat) (c l0 l1 l2 : Int) (w : World) (hG : TabOk w) (h3 : (c != 10) = true) :
    Calls Tryz.prog 43 #[stV 9 n co li sz tx (.slice A0 n0 k0) (.slice A1 n1 k1), .int .u8 c, .agg #[.int .i64 l0, .int .i64 l1, .int .i64 l2]] w fun e w' => e = .returned (.tuple #[stV 9 n co li sz tx (.slice A0 n0 k0) (.slice A1 n1 k1), .int .i64 2]) ∧ Below w.heap.size w w' := by
  clear hG
  go_enter Tryz.func43, Tryz.ntmps43
  go_wp2
  refine bodyPost_ret (results_ct rfl _ _ (w.heap.size + 1 + 1) 82 _ (0, 0) _ (by rfl) (by exact blk3 w _ _ _ _) Tryz.underlying82 rfl (by kernel_rfl)) rfl ⟨rfl, below3 (Below.refl _ _) _ _ _⟩
set_option maxHeartbeats 4000000 in
set_option maxRecDepth 100000 in
theorem st8_10a (n co li sz : Int) (tx : ByteArray) (A0 A1 : Option Addr) (n0 n1 k0 k1 : Nat) (c l0 l1 l2 : Int) (w : World) (hG : TabOk w) (h3 : (c != 10) = true) :
    Calls Tryz.prog 43 #[stV 10 n co li sz tx (.slice A0 n0 k0) (.slice A1 n1 k1), .int .u8 c, .agg #[.int .i64 l0, .int .i64 l1, .int .i64 l2]] w fun e w' => e = .returned (.tuple #[stV 10 n co li sz tx (.slice A0 n0 k0) (.slice A1 n1 k1), .int .i64 2]) ∧ Below w.heap.size w w' := by
  clear hG
  go_enter Tryz.func43, Tryz.ntmps43
  go_wp2
  refine bodyPost_ret (results_ct rfl _ _ (w.heap.size + 1 + 1) 82 _ (0, 0) _ (by rfl) (by exact blk3 w _ _ _ _) Tryz.underlying82 rfl (by kernel_rfl)) rfl ⟨rfl, below3 (Below.refl _ _) _ _ _⟩
set_option maxHeartbeats 4000000 in
set_option maxRecDepth 100000 in
theorem st8_2b (n co li sz : Int) (tx : ByteArray) (A0 A1 : Option Addr) (n0 n1 k0 k1 : Nat) (c l0 l1 l2 : Int) (w : World) (hG : TabOk w) (h3 : (c != 10) = false) (h4 : 0 < n) :
    Calls Tryz.prog 43 #[stV 2 n co li sz tx (.slice A0 n0 k0) (.slice A1 n1 k1), .int .u8 c, .agg #[.int .i64 l0, .int .i64 l1, .int .i64 l2]] w fun e w' => e = .returned (.tuple #[stV 3 n co li sz tx (.slice A0 n0 k0) (.slice A1 n1 k1), .int .i64 0]) ∧ Below w.heap.size w w' := by
  clear hG
  go_enter Tryz.func43, Tryz.ntmps43
  go_wp2
  refine bodyPost_ret (results_ct rfl _ _ (w.heap.size + 1 + 1) 82 _ (0, 0) _ (by rfl) (by exact blk3 w _ _ _ _) Tryz.underlying82 rfl (by kernel_rfl)) rfl ⟨rfl, below3 (Below.refl _ _) _ _ _⟩
set_option maxHeartbeats 4000000 in
set_option maxRecDepth 100000 in
theorem st8_2c (co li sz : Int) (tx : ByteArray) (A0 A1 : Option Addr) (n0 n1 k0 k1 : Nat) (c l0 l1 l2 : Int) (w : World) (hG : TabOk w) (h3 : (c != 10) = false) :
    Calls Tryz.prog 43 #[stV 2 0 co li sz tx (.slice A0 n0 k0) (.slice A1 n1 k1), .int .u8 c, .agg #[.int .i64 l0, .int .i64 l1, .int .i64 l2]] w fun e w' => e = .returned (.tuple #[stV 6 0 co li sz tx (.slice A0 n0 k0) (.slice A1 n1 k1), .int .i64 0]) ∧ Below w.heap.size w w' := by
  clear hG
  go_enter Tryz.func43, Tryz.ntmps43
  go_wp2
  refine bodyPost_ret (results_ct rfl _ _ (w.heap.size + 1 + 1) 82 _ (0, 0) _ (by rfl) (by exact blk3 w _ _ _ _) Tryz.underlying82 rfl (by kernel_rfl)) rfl ⟨rfl, below3 (Below.refl _ _) _ _ _⟩
set_option maxHeartbeats 4000000 in
set_option maxRecDepth 100000 in
theorem st8_5b (n co li sz : Int) (tx : ByteArray) (A0 A1 : Option Addr) (n0 n1 k0 k1 : Nat) (c l0 l1 l2 : Int) (w : World) (hG : TabOk w) (h3 : (c != 10) = false) :
    Calls Tryz.prog 43 #[stV 5 n co li sz tx (.slice A0 n0 k0) (.slice A1 n1 k1), .int .u8 c, .agg #[.int .i64 l0, .int .i64 l1, .int .i64 l2]] w fun e w' => e = .returned (.tuple #[stV 0 n 0 li sz tx (.slice A0 n0 k0) (.slice A1 n1 k1), .int .i64 0]) ∧ Below w.heap.size w w' := by
  clear hG
  go_enter Tryz.func43, Tryz.ntmps43
  go_wp2
  refine bodyPost_ret (results_ct rfl _ _ (w.heap.size + 1 + 1) 82 _ (0, 0) _ (by rfl) (by exact blk3 w _ _ _ _) Tryz.underlying82 rfl (by kernel_rfl)) rfl ⟨rfl, below3 (Below.refl _ _) _ _ _⟩
set_option maxHeartbeats 4000000 in
set_option maxRecDepth 100000 in
theorem st8_10b (n co li sz : Int) (tx : ByteArray) (A0 A1 : Option Addr) (n0 n1 k0 k1 : Nat) (c l0 l1 l2 : Int) (w : World) (hG : TabOk w) (h3 : (c != 10) = false) :
    Calls Tryz.prog 43 #[stV 10 n co li sz tx (.slice A0 n0 k0) (.slice A1 n1 k1), .int .u8 c, .agg #[.int .i64 l0, .int .i64 l1, .int .i64 l2]] w fun e w' => e = .returned (.tuple #[stV 11 n co li sz tx (.slice A0 n0 k0) (.slice A1 n1 k1), .int .i64 0]) ∧ Below w.heap.size w w' := by
  clear hG
  go_enter Tryz.func43, Tryz.ntmps43
  go_wp2
  refine bodyPost_ret (results_ct rfl _ _ (w.heap.size + 1 + 1) 82 _ (0, 0) _ (by rfl) (by exact blk3 w _ _ _ _) Tryz.underlying82 rfl (by kernel_rfl)) rfl ⟨rfl, below3 (Below.refl _ _) _ _ _⟩
set_option maxHeartbeats 4000000 in
set_option maxRecDepth 100000 in
theorem st8_4a (n co li sz : Int) (tx : ByteArray) (A0 A1 : Option Addr) (n0 n1 k0 k1 : Nat) (c l0 l1 l2 : Int) (w : World) (hG : TabOk w) (h3 : (c != 13) = true) :
    Calls Tryz.prog 43 #[stV 4 n co li sz tx (.slice A0 n0 k0) (.slice A1 n1 k1), .int .u8 c, .agg #[.int .i64 l0, .int .i64 l1, .int .i64 l2]] w fun e w' => e = .returned (.tuple #[stV 4 n co li sz tx (.slice A0 n0 k0) (.slice A1 n1 k1), .int .i64 2]) ∧ Below w.heap.size w w' := by
  clear hG
  go_enter Tryz.func43, Tryz.ntmps43
  go_wp2
  refine bodyPost_ret (results_ct rfl _ _ (w.heap.size + 1 + 1) 82 _ (0, 0) _ (by rfl) (by exact blk3 w _ _ _ _) Tryz.underlying82 rfl (by kernel_rfl)) rfl ⟨rfl, below3 (Below.refl _ _) _ _ _⟩
set_option maxHeartbeats 4000000 in
set_option maxRecDepth 100000 in
theorem st8_4b (n co li sz : Int) (tx : ByteArray) (A0 A1 : Option Addr) (n0 n1 k0 k1 : Nat) (c l0 l1 l2 : Int) (w : World) (hG : TabOk w) (h3 : (c != 13) = false) :
    Calls Tryz.prog 43 #[stV 4 n co li sz tx (.slice A0 n0 k0) (.slice A1 n1 k1), .int .u8 c, .agg #[.int .i64 l0, .int .i64 l1, .int .i64 l2]] w fun e w' => e = .returned (.tuple #[stV 5 n co li sz tx (.slice A0 n0 k0) (.slice A1 n1 k1), .int .i64 0]) ∧ Below w.heap.size w w' := by
  clear hG
  go_enter Tryz.func43, Tryz.ntmps43
  go_wp2
  refine bodyPost_ret (results_ct rfl _ _ (w.heap.size + 1 + 1) 82 _ (0, 0) _ (by rfl) (by exact blk3 w _ _ _ _) Tryz.underlying82 rfl (by kernel_rfl)) rfl ⟨rfl, below3 (Below.refl _ _) _ _ _⟩
set_option maxHeartbeats 4000000 in
set_option maxRecDepth 100000 in
theorem st8_6a (n co li sz : Int) (tx : ByteArray) (A0 A1 : Option Addr) (n0 n1 k0 k1 : Nat) (c l0 l1 l2 : Int) (w : World) (hG : TabOk w) (h3 : (c == 13) = true) :
    Calls Tryz.prog 43 #[stV 6 n co li sz tx (.slice A0 n0 k0) (.slice A1 n1 k1), .int .u8 c, .agg #[.int .i64 l0, .int .i64 l1, .int .i64 l2]] w fun e w' => e = .returned (.tuple #[stV 10 n co li sz tx (.slice A0 n0 k0) (.slice A1 n1 k1), .int .i64 0]) ∧ Below w.heap.size w w' := by
  clear hG
  go_enter Tryz.func43, Tryz.ntmps43
  go_wp2
  refine bodyPost_ret (results_ct rfl _ _ (w.heap.size + 1 + 1) 82 _ (0, 0) _ (by rfl) (by exact blk3 w _ _ _ _) Tryz.underlying82 rfl (by kernel_rfl)) rfl ⟨rfl, below3 (Below.refl _ _) _ _ _⟩
set_option maxHeartbeats 4000000 in
set_option maxRecDepth 100000 in
theorem st8_8b (n co li sz : Int) (tx : ByteArray) (A0 A1 : Option Addr) (n0 n1 k0 k1 : Nat) (c l0 l1 l2 : Int) (w : World) (hG : TabOk w) (h3 : (c == 13) = false) (hbyt : catchpitref02_Byte.f c = some false) :
    Calls Tryz.prog 43 #[stV 8 n co li sz tx (.slice A0 n0 k0) (.slice A1 n1 k1), .int .u8 c, .agg #[.int .i64 l0, .int .i64 l1, .int .i64 l2]] w fun e w' => e = .returned (.tuple #[stV 8 n co li sz tx (.slice A0 n0 k0) (.slice A1 n1 k1), .int .i64 2]) ∧ Below w.heap.size w w' := by
  have HC_Byt := Aside0.mk (fun (W : World) (h : Below w.heap.size w W) => catchpitref02_Byte.calls c false W (hG.below h) hbyt)
  clear hG
  go_enter Tryz.func43, Tryz.ntmps43
  go_wp2_with fail
  refine (HC_Byt.out _ (below3 (Below.refl _ _) _ _ _)).mono ?_
  rintro e w4 ⟨rfl, hd4⟩
  obtain ⟨w2, rfl, hs2, hb2⟩ := drawn3 hd4
  clear hd4
  go_wp2
  refine bodyPost_ret (results_ct rfl _ _ (w.heap.size + 1 + 1) 82 _ (0, 0) _ (by rfl) (by rw [← hs2]; exact blk3 w2 _ _ _ _) Tryz.underlying82 rfl (by kernel_rfl)) rfl ⟨rfl, below3 hb2 _ _ _⟩
end Go.Proofs.YtmmbpbgcobmifaaGreatDoorH
end
section
namespace Go.Proofs.YtmmbpbgcobmifaaGreatDoor.Pr
end Go.Proofs.YtmmbpbgcobmifaaGreatDoor.Pr
namespace Go.Proofs.YtmmbpbgcobmifaaGreatDoorH
set_option linter.unusedVariables false
set_option linter.unusedSimpArgs false
open Go Go.RowKit Go.Proofs.YtmmbpbgcobmifaaGreatDoorW.PrintWords Go.Proofs.YtmmbpbgcobmifaaGreatDoorW.PrintLast Go.Proofs.YtmmbpbgcobmifaaGreatDoorW.PrintMore Go.Proofs.YtmmbpbgcobmifaaGreatDoor.Pr Go.Proofs.YtmmbpbgcobmifaaGreatDoorM
theorem drawn4 {w w4 : World} {a b c d : Obj} (h : Drawn0 ((((w.alloc a).alloc b).alloc c).alloc d) w4) : ∃ w2, w4 = ((((w2.alloc a).alloc b).alloc c).alloc d) ∧ w2.heap.size = w.heap.size ∧ Below w.heap.size w w2 := by
  obtain ⟨n, rfl⟩ := h.out
  exact ⟨w.drewN n, rfl, rfl, pw_below_drewN (Below.refl _ _) n⟩
theorem blk4 (w : World) (a b d : Obj) (cs : Array Value) (t : TypeId) : ((((w.alloc a).alloc b).alloc (.cells cs t)).alloc d).heap[w.heap.size + 1 + 1]? = some (.cells cs t (0, 0)) := alloc_keep _ (blk3 w a b cs t)
theorem one_byte (W : World) (c : Int) : (convert 25 9 (.slice (some ⟨W.heap.size, 0, none⟩) 1 1)).run Tryz.prog (W.alloc (.cells #[.int .u8 c] 5)) = .ok (.string (strOfNums [c])) (W.alloc (.cells #[.int .u8 c] 5)) := by
  refine Kd.C_string (xs := [c]) (c := 1) Tryz.underlying25 Tryz.underlying5 Tryz.underlying9 ⟨rfl, by decide, fun _ => ⟨_, rfl, fun j p hj => ?_⟩⟩
  match j with
  | 0 =>
    have e : c = p := by simpa using hj
    subst e
    refine ⟨[.int .u8 c], rfl, rfl, fun i u hu => ?_⟩
    match i with
    | 0 =>
      have e : Value.int .u8 c = u := by simpa using hu
      subst e
      exact World.news_of_block (World.alloc_heap_new W _) 0 _ rfl
    | i + 1 => simp at hu
  | j + 1 => simp at hj
theorem one_byte4 (w : World) (x : Int) (a b d : Obj) : (convert 25 9 (.slice (some ⟨w.heap.size + 1 + 1 + 1, 0, none⟩) 1 1)).run Tryz.prog ((((w.alloc a).alloc b).alloc d).alloc (.cells #[.int .u8 x] 5)) = .ok (.string (strOfNums [x])) ((((w.alloc a).alloc b).alloc d).alloc (.cells #[.int .u8 x] 5)) := by
  have := one_byte (((w.alloc a).alloc b).alloc d) x
  rwa [World.size_alloc, World.size_alloc, World.size_alloc] at this
set_option maxHeartbeats 4000000 in
set_option maxRecDepth 100000 in
theorem st8_0b (n co li sz : Int) (tx : ByteArray) (A0 A1 : Option Addr) (n0 n1 k0 k1 : Nat) (c l0 l1 l2 : Int) (w : World) (hG : TabOk w) (k : Nat) (dg : Int) (hdig : catchpitref01_Digit.f k c = some dg) (h0 : 0 ≤ dg) (hco : (co == 16) = false) (q : Int) (hq0 : IntKind.u64.wrap dg = dg) (hq1 : IntKind.u64.wrap (4611686018427387903 - dg) = 4611686018427387903 - dg) (hq2 : IntKind.u64.wrap (Int.tdiv (4611686018427387903 - dg) 16) = q) (hq3 : q < n) :
    Calls Tryz.prog 43 #[stV 0 n co li sz tx (.slice A0 n0 k0) (.slice A1 n1 k1), .int .u8 c, .agg #[.int .i64 l0, .int .i64 l1, .int .i64 l2]] w fun e w' => e = .returned (.tuple #[stV 0 n co li sz tx (.slice A0 n0 k0) (.slice A1 n1 k1), .int .i64 3]) ∧ Below w.heap.size w w' := by
  have HC_Dig := Aside0.mk (fun (W : World) (h : Below w.heap.size w W) => catchpitref01_Digit.calls k c dg W (hG.below h) hdig)
  clear hG
  go_enter Tryz.func43, Tryz.ntmps43
  go_wp2_with fail
  refine (HC_Dig.out _ (below3 (Below.refl _ _) _ _ _)).mono ?_
  rintro e w4 ⟨rfl, hd4⟩
  obtain ⟨w2, rfl, hs2, hb2⟩ := drawn3 hd4
  clear hd4
  go_wp2
  refine bodyPost_ret (results_ct rfl _ _ (w.heap.size + 1 + 1) 82 _ (0, 0) _ (by rfl) (by rw [← hs2]; exact blk3 w2 _ _ _ _) Tryz.underlying82 rfl (by kernel_rfl)) rfl ⟨rfl, below3 hb2 _ _ _⟩
set_option maxHeartbeats 4000000 in
set_option maxRecDepth 100000 in
theorem st8_0c (n co li sz : Int) (tx : ByteArray) (A0 A1 : Option Addr) (n0 n1 k0 k1 : Nat) (c l0 l1 l2 : Int) (w : World) (hG : TabOk w) (k : Nat) (dg : Int) (hdig : catchpitref01_Digit.f k c = some dg) (h0 : 0 ≤ dg) (hco : (co == 16) = false) (q : Int) (hq0 : IntKind.u64.wrap dg = dg) (hq1 : IntKind.u64.wrap (4611686018427387903 - dg) = 4611686018427387903 - dg) (hq2 : IntKind.u64.wrap (Int.tdiv (4611686018427387903 - dg) 16) = q) (hq3 : ¬ q < n) (hm0 : IntKind.u64.wrap (16 * n) = 16 * n) (hm1 : IntKind.u64.wrap (16 * n + dg) = 16 * n + dg) (hw : IntKind.i64.wrap (co + 1) = co + 1) :
    Calls Tryz.prog 43 #[stV 0 n co li sz tx (.slice A0 n0 k0) (.slice A1 n1 k1), .int .u8 c, .agg #[.int .i64 l0, .int .i64 l1, .int .i64 l2]] w fun e w' => e = .returned (.tuple #[stV 0 (16 * n + dg) (co + 1) li sz tx (.slice A0 n0 k0) (.slice A1 n1 k1), .int .i64 0]) ∧ Below w.heap.size w w' := by
  have HC_Dig := Aside0.mk (fun (W : World) (h : Below w.heap.size w W) => catchpitref01_Digit.calls k c dg W (hG.below h) hdig)
  clear hG
  go_enter Tryz.func43, Tryz.ntmps43
  go_wp2_with fail
  refine (HC_Dig.out _ (below3 (Below.refl _ _) _ _ _)).mono ?_
  rintro e w4 ⟨rfl, hd4⟩
  obtain ⟨w2, rfl, hs2, hb2⟩ := drawn3 hd4
  clear hd4
  go_wp2
  refine bodyPost_ret (results_ct rfl _ _ (w.heap.size + 1 + 1) 82 _ (0, 0) _ (by rfl) (by rw [← hs2]; exact blk3 w2 _ _ _ _) Tryz.underlying82 rfl (by kernel_rfl)) rfl ⟨rfl, below3 hb2 _ _ _⟩
set_option maxHeartbeats 4000000 in
set_option maxRecDepth 100000 in
theorem st8_7b (n co li sz : Int) (tx : ByteArray) (A0 A1 : Option Addr) (n0 n1 k0 k1 : Nat) (c l0 l1 l2 : Int) (w : World) (hG : TabOk w) (h3 : (c == 58) = false) (k : Nat) (htok : catchpitref02_Token.f k (strOfNums [c]) = some false) :
    Calls Tryz.prog 43 #[stV 7 n co li sz tx (.slice A0 n0 k0) (.slice A1 n1 k1), .int .u8 c, .agg #[.int .i64 l0, .int .i64 l1, .int .i64 l2]] w fun e w' => e = .returned (.tuple #[stV 7 n co li sz tx (.slice A0 n0 k0) (.slice A1 n1 k1), .int .i64 2]) ∧ Below w.heap.size w w' := by
  have HC_Tok := Aside0.mk (fun (W : World) (h : Below w.heap.size w W) => catchpitref02_Token.calls k (strOfNums [c]) false W (hG.below h) htok)
  clear hG
  go_enter Tryz.func43, Tryz.ntmps43
  have hcv := one_byte4 w c
  go_wp2_with fail
  refine (HC_Tok.out _ (below_alloc (below3 (Below.refl _ _) _ _ _) _)).mono ?_
  rintro e w4 ⟨rfl, hd4⟩
  obtain ⟨w2, rfl, hs2, hb2⟩ := drawn4 hd4
  clear hd4
  go_wp2
  refine bodyPost_ret (results_ct rfl _ _ (w.heap.size + 1 + 1) 82 _ (0, 0) _ (by rfl) (by rw [← hs2]; exact blk4 w2 _ _ _ _ _) Tryz.underlying82 rfl (by kernel_rfl)) rfl ⟨rfl, below_alloc (below3 hb2 _ _ _) _⟩
set_option maxHeartbeats 4000000 in
set_option maxRecDepth 100000 in
theorem st8_6b (n co li sz : Int) (tx : ByteArray) (A0 A1 : Option Addr) (n0 n1 k0 k1 : Nat) (c l0 l1 l2 : Int) (w : World) (hG : TabOk w) (h3 : (c == 13) = false) (k : Nat) (htok : catchpitref02_Token.f k (strOfNums [c]) = some false) :
    Calls Tryz.prog 43 #[stV 6 n co li sz tx (.slice A0 n0 k0) (.slice A1 n1 k1), .int .u8 c, .agg #[.int .i64 l0, .int .i64 l1, .int .i64 l2]] w fun e w' => e = .returned (.tuple #[stV 6 n co li sz tx (.slice A0 n0 k0) (.slice A1 n1 k1), .int .i64 2]) ∧ Below w.heap.size w w' := by
  have HC_Tok := Aside0.mk (fun (W : World) (h : Below w.heap.size w W) => catchpitref02_Token.calls k (strOfNums [c]) false W (hG.below h) htok)
  clear hG
  go_enter Tryz.func43, Tryz.ntmps43
  have hcv := one_byte4 w c
  go_wp2_with fail
  refine (HC_Tok.out _ (below_alloc (below3 (Below.refl _ _) _ _ _) _)).mono ?_
  rintro e w4 ⟨rfl, hd4⟩
  obtain ⟨w2, rfl, hs2, hb2⟩ := drawn4 hd4
  clear hd4
  go_wp2
  refine bodyPost_ret (results_ct rfl _ _ (w.heap.size + 1 + 1) 82 _ (0, 0) _ (by rfl) (by rw [← hs2]; exact blk4 w2 _ _ _ _ _) Tryz.underlying82 rfl (by kernel_rfl)) rfl ⟨rfl, below_alloc (below3 hb2 _ _ _) _⟩
set_option maxHeartbeats 4000000 in
set_option maxRecDepth 100000 in
theorem st8_6c (n co li sz : Int) (tx : ByteArray) (A0 A1 : Option Addr) (n0 n1 k0 k1 : Nat) (c l0 l1 l2 : Int) (w : World) (hG : TabOk w) (h3 : (c == 13) = false) (h4 : l1 ≤ li) (k : Nat) (htok : catchpitref02_Token.f k (strOfNums [c]) = some true) :
    Calls Tryz.prog 43 #[stV 6 n co li sz tx (.slice A0 n0 k0) (.slice A1 n1 k1), .int .u8 c, .agg #[.int .i64 l0, .int .i64 l1, .int .i64 l2]] w fun e w' => e = .returned (.tuple #[stV 6 n co li sz tx (.slice A0 n0 k0) (.slice A1 n1 k1), .int .i64 5]) ∧ Below w.heap.size w w' := by
  have HC_Tok := Aside0.mk (fun (W : World) (h : Below w.heap.size w W) => catchpitref02_Token.calls k (strOfNums [c]) true W (hG.below h) htok)
  clear hG
  go_enter Tryz.func43, Tryz.ntmps43
  have hcv := one_byte4 w c
  go_wp2_with fail
  refine (HC_Tok.out _ (below_alloc (below3 (Below.refl _ _) _ _ _) _)).mono ?_
  rintro e w4 ⟨rfl, hd4⟩
  obtain ⟨w2, rfl, hs2, hb2⟩ := drawn4 hd4
  clear hd4
  go_wp2
  refine bodyPost_ret (results_ct rfl _ _ (w.heap.size + 1 + 1) 82 _ (0, 0) _ (by rfl) (by rw [← hs2]; exact blk4 w2 _ _ _ _ _) Tryz.underlying82 rfl (by kernel_rfl)) rfl ⟨rfl, below_alloc (below3 hb2 _ _ _) _⟩
end Go.Proofs.YtmmbpbgcobmifaaGreatDoorH
end
section
namespace Go.Proofs.YtmmbpbgcobmifaaGreatDoor.Pr
end Go.Proofs.YtmmbpbgcobmifaaGreatDoor.Pr
namespace Go.Proofs.YtmmbpbgcobmifaaGreatDoorH
set_option linter.unusedVariables false
set_option linter.unusedSimpArgs false
open Go Go.RowKit Go.Proofs.YtmmbpbgcobmifaaGreatDoorW.PrintWords Go.Proofs.YtmmbpbgcobmifaaGreatDoorW.PrintLast Go.Proofs.YtmmbpbgcobmifaaGreatDoorW.PrintMore Go.Proofs.YtmmbpbgcobmifaaGreatDoor.Pr Go.Proofs.YtmmbpbgcobmifaaGreatDoorM
theorem put8 {W : World} {g : Nat} {t : TypeId} {z0 z1 z2 z3 z4 z5 z6 z7 : Value} (h : W.heap[g]? = some (.cells #[z0, z1, z2, z3, z4, z5, z6, z7] t (0, 0))) (v0 v1 v2 v3 v4 v5 v6 v7 : Value) : ((((((((W.setCell ⟨g, 0, none⟩ v0).setCell ⟨g, 1, none⟩ v1).setCell ⟨g, 2, none⟩ v2).setCell ⟨g, 3, none⟩ v3).setCell ⟨g, 4, none⟩ v4).setCell ⟨g, 5, none⟩ v5).setCell ⟨g, 6, none⟩ v6).setCell ⟨g, 7, none⟩ v7).heap[g]? = some (.cells #[v0, v1, v2, v3, v4, v5, v6, v7] t (0, 0)) := blk_put (cs := #[v0, v1, v2, v3, v4, v5, v6, z7]) (blk_put (cs := #[v0, v1, v2, v3, v4, v5, z6, z7]) (blk_put (cs := #[v0, v1, v2, v3, v4, z5, z6, z7]) (blk_put (cs := #[v0, v1, v2, v3, z4, z5, z6, z7]) (blk_put (cs := #[v0, v1, v2, z3, z4, z5, z6, z7]) (blk_put (cs := #[v0, v1, z2, z3, z4, z5, z6, z7]) (blk_put (cs := #[v0, z1, z2, z3, z4, z5, z6, z7]) (blk_put (cs := #[z0, z1, z2, z3, z4, z5, z6, z7]) h 0 _ rfl) 1 _ rfl) 2 _ rfl) 3 _ rfl) 4 _ rfl) 5 _ rfl) 6 _ rfl) 7 _ rfl
theorem farH (W : World) (g j : Nat) (v : Value) (k : Nat) (hk : k ≠ g) : (W.setCell ⟨g, j, none⟩ v).heap[k]? = W.heap[k]? := Below.heap_setCell W ⟨g, j, none⟩ v k hk
theorem bset {B : Nat} {w W : World} (h : Below B w W) (g j : Nat) (v : Value) (hg : B ≤ g) : Below B w (W.setCell ⟨g, j, none⟩ v) := h.setCell (p := ⟨g, j, none⟩) hg v
set_option maxHeartbeats 4000000 in
set_option maxRecDepth 100000 in
theorem ln8_a (p n co li sz : Int) (tx : ByteArray) (A0 A1 : Option Addr) (n0 n1 k0 k1 : Nat) (c l0 l1 l2 : Int) (w : World) (h4 : l2 ≤ sz) :
    Calls Tryz.prog 55 #[stV p n co li sz tx (.slice A0 n0 k0) (.slice A1 n1 k1), .int .u8 c, .agg #[.int .i64 l0, .int .i64 l1, .int .i64 l2]] w fun e w' => e = .returned (.tuple #[stV p n co li sz tx (.slice A0 n0 k0) (.slice A1 n1 k1), .int .i64 5]) ∧ Below w.heap.size w w' := by
  go_enter Tryz.func55, Tryz.ntmps55
  go_wp2
  refine bodyPost_ret (results_ct rfl _ _ (w.heap.size + 1 + 1) 82 _ (0, 0) _ (by rfl) (by exact blk3 w _ _ _ _) Tryz.underlying82 rfl (by kernel_rfl)) rfl ⟨rfl, below3 (Below.refl _ _) _ _ _⟩
set_option maxHeartbeats 4000000 in
set_option maxRecDepth 100000 in
theorem ln8_b (p n co li sz : Int) (tx : ByteArray) (A0 A1 : Option Addr) (n0 n1 k0 k1 : Nat) (c l0 l1 l2 : Int) (w : World) (h4 : ¬ l2 ≤ sz) (h3 : (c != 10) = true) (hw : IntKind.i64.wrap (sz + 1) = sz + 1) (ht : tx.size ≤ 1000000) :
    Calls Tryz.prog 55 #[stV p n co li sz tx (.slice A0 n0 k0) (.slice A1 n1 k1), .int .u8 c, .agg #[.int .i64 l0, .int .i64 l1, .int .i64 l2]] w fun e w' => e = .returned (.tuple #[stV p n co li (sz + 1) (tx ++ strOfNums [c]) (.slice A0 n0 k0) (.slice A1 n1 k1), .int .i64 0]) ∧ Below w.heap.size w w' := by
  have hcv := one_byte4 w c
  have hz1 : (strOfNums [c]).size = 1 := rfl
  have ht2 : ¬ 9223372036854775807 < tx.size + 1 := by omega
  go_enter Tryz.func55, Tryz.ntmps55
  go_wp2
  refine bodyPost_ret (results_ct rfl _ _ (w.heap.size + 1 + 1) 82 _ (0, 0) _ (by rfl) (by exact blk4 w _ _ _ _ _) Tryz.underlying82 rfl (by kernel_rfl)) rfl ⟨rfl, below_alloc (below3 (Below.refl _ _) _ _ _) _⟩
set_option maxHeartbeats 4000000 in
set_option maxRecDepth 100000 in
theorem ln8_d (n co li sz : Int) (tx : ByteArray) (A0 A1 : Option Addr) (n0 k0 k1 : Nat) (fs : List Fld) (c l0 l1 l2 : Int) (w : World) (hr : Kd.C k28 w A1 fs.length fs) (hk : fs.length ≤ k1) (hG : TabOk w) (h4 : ¬ l2 ≤ sz) (h3 : (c != 10) = false) (hw : IntKind.i64.wrap (sz + 1) = sz + 1) (ht : tx.size ≤ 1000000) (ht0 : 0 < tx.size) (hfl : fs.length ≤ 1000000) (k : Nat) (r1 r2 : ByteArray) (r3 : Bool) (hp : catchpitref05_Parse.f k (tx.extract 0 (tx.size - 1)) = some (r1, r2, r3)) :
    Calls Tryz.prog 55 #[stV 9 n co li sz tx (.slice A0 n0 k0) (.slice A1 fs.length k1), .int .u8 c, .agg #[.int .i64 l0, .int .i64 l1, .int .i64 l2]] w fun e w' => ∃ A2 k2, e = .returned (.tuple #[stV 6 n co li (sz + 1) ⟨#[]⟩ (.slice A0 n0 k0) (.slice A2 (fs ++ [(⟨r1, r2⟩ : Fld)]).length k2), .int .i64 0]) ∧ (fs ++ [(⟨r1, r2⟩ : Fld)]).length ≤ k2 ∧ (∀ W', (∀ k, w.heap.size ≤ k → W'.heap[k]? = w'.heap[k]?) → Kd.C k28 W' A2 (fs ++ [(⟨r1, r2⟩ : Fld)]).length (fs ++ [(⟨r1, r2⟩ : Fld)])) ∧ Below w.heap.size w w' := by
  have HP := Aside0.mk (fun (W : World) (h : Below w.heap.size w W) => catchpitref05_Parse.calls k _ r1 r2 r3 W (hG.below h) hp)
  have HR := Aside0.mk (fun (W : World) (h : Below w.heap.size w W) => Kd.C_below hr h)
  have hw1 : IntKind.i64.wrap ((tx.size : Int) - 1) = (tx.size : Int) - 1 := by
    unfold IntKind.wrap
    simp [IntKind.bits, IntKind.signed]
    omega
  have hs0 : (0 : Int) ≤ (tx.size : Int) - 1 := by omega
  have hs1 : (tx.size : Int) - 1 ≤ (tx.size : Int) := by omega
  have hs2 : ((tx.size : Int) - 1).toNat = tx.size - 1 := by omega
  clear hr hG hp
  go_enter Tryz.func55, Tryz.ntmps55
  go_wp2_with fail
  obtain ⟨W3, hW3⟩ : ∃ W3, (((w.alloc (.cells #[Value.int .i64 9, Value.int .u64 n, Value.int .i64 co, Value.int .i64 li, Value.int .i64 (sz + 1), Value.string tx, Value.slice A0 n0 k0, Value.slice A1 fs.length k1] 82)).alloc (.cells #[.int .i64 l0, .int .i64 l1, .int .i64 l2] 46)).alloc (.cells #[Value.int .i64 0, Value.int .u64 0, Value.int .i64 0, Value.int .i64 0, Value.int .i64 0, Value.string ⟨#[]⟩, Value.slice none 0 0, Value.slice none 0 0] 82)) = W3 := ⟨_, rfl⟩
  have B3 := Aside0.mk (show Below w.heap.size w W3 by rw [← hW3]; exact below3 (Below.refl _ _) _ _ _)
  have hS3 : W3.heap[w.heap.size]? = some (.cells #[Value.int .i64 9, Value.int .u64 n, Value.int .i64 co, Value.int .i64 li, Value.int .i64 (sz + 1), Value.string tx, Value.slice A0 n0 k0, Value.slice A1 fs.length k1] 82 (0, 0)) := by rw [← hW3]; exact alloc_keep _ (alloc_keep _ (World.alloc_heap_new w _))
  have hR3 : W3.heap[w.heap.size + 1 + 1]? = some (.cells #[Value.int .i64 0, Value.int .u64 0, Value.int .i64 0, Value.int .i64 0, Value.int .i64 0, Value.string ⟨#[]⟩, Value.slice none 0 0, Value.slice none 0 0] 82 (0, 0)) := by rw [← hW3]; exact blk3 w _ _ _ _
  rw [hW3]
  clear hW3
  refine (HP.out _ B3.out).mono ?_
  rintro e w4 ⟨rfl, hb4⟩
  have B4 := Aside0.mk (B3.out.trans (hb4.mono B3.out.size))
  have HS := Aside0.mk (fun W (h : Below w4.heap.size w4 W) => (h.block _ (blk_lt ((hb4.block _ (blk_lt hS3)).trans hS3))).trans ((hb4.block _ (blk_lt hS3)).trans hS3))
  have HRR := Aside0.mk (fun W (h : Below w4.heap.size w4 W) => (h.block _ (blk_lt ((hb4.block _ (blk_lt hR3)).trans hR3))).trans ((hb4.block _ (blk_lt hR3)).trans hR3))
  have hlt4 : w.heap.size + 1 + 1 < w4.heap.size := blk_lt (HRR.out w4 (Below.refl _ _))
  have hlt4' : w.heap.size < w4.heap.size := by omega
  have hne4 : ¬ w.heap.size = w4.heap.size := by omega
  have hne4' : ¬ w4.heap.size = w.heap.size := by omega
  clear hb4 hS3 hR3 HP
  have hS4 := HS.out w4 (Below.refl _ _)
  have s0 : w4.cell? ⟨w.heap.size, 0, none⟩ = some (Value.int .i64 9) := (blk_cell hS4 0).trans rfl
  have s1 : w4.cell? ⟨w.heap.size, 1, none⟩ = some (Value.int .u64 n) := (blk_cell hS4 1).trans rfl
  have s2 : w4.cell? ⟨w.heap.size, 2, none⟩ = some (Value.int .i64 co) := (blk_cell hS4 2).trans rfl
  have s3 : w4.cell? ⟨w.heap.size, 3, none⟩ = some (Value.int .i64 li) := (blk_cell hS4 3).trans rfl
  have s4 : w4.cell? ⟨w.heap.size, 4, none⟩ = some (Value.int .i64 (sz + 1)) := (blk_cell hS4 4).trans rfl
  have s5 : w4.cell? ⟨w.heap.size, 5, none⟩ = some (Value.string tx) := (blk_cell hS4 5).trans rfl
  have s6 : w4.cell? ⟨w.heap.size, 6, none⟩ = some (Value.slice A0 n0 k0) := (blk_cell hS4 6).trans rfl
  have s7 : w4.cell? ⟨w.heap.size, 7, none⟩ = some (Value.slice A1 fs.length k1) := (blk_cell hS4 7).trans rfl
  clear hS4
  go_wp2_with (first
    | ((with_reducible refine gate_builtin (b := .append) (xs := #[.tmp 47, .tmp 49]) rfl ?_); at_builtin; refine Kd.R_append_rows k28 (w0 := w4) w4.heap.size rfl (.tmp 47) (.tmp 49) 23 28 (.agg #[.string ⟨#[]⟩, .string ⟨#[]⟩]) 32 rfl Tryz.underlying23 info28 rfl (by decide) (by omega) (.slice none 0 0) ([] : List Fld) fs _ _ _ (fun _ => True) (fun _ => False) rfl rfl ?aO ?aR (fun _ _ h => h) (fun _ h => h.elim) (fun _ _ => trivial) ?aB ?aS ?aL ?_; (case aO => exact Kd.R_nil _ _ _ _ _); (case aR => exact HR.out _ (below_alloc B4.out _)); (case aB => exact below_alloc (Below.refl _ _) _); (case aS => exact (below_alloc (Below.refl _ _) _).size); (case aL => simp only [List.length_nil]; omega); intro v5 w5 ho5 hb5 hg5 hat5; have HO5 := Aside0.mk ho5; have HB5 := Aside0.mk hb5; have hbx := (hg5.block _ (blk_lt (World.alloc_heap_new w4 (.cells #[.string r1, .string r2] 28))) (by simp [Value.ownBlock])).trans (World.alloc_heap_new w4 _); have b0 : w5.cell? ⟨w4.heap.size, 0, none⟩ = some (.string r1) := (blk_cell hbx 0).trans rfl; have b1 : w5.cell? ⟨w4.heap.size, 1, none⟩ = some (.string r2) := (blk_cell hbx 1).trans rfl; clear ho5 hb5 hg5 hat5 hbx s0 s1 s2 s3 s4 s5 s6 s7)
    | ((with_reducible refine gate_builtin (b := .append) (xs := #[.tmp 51, .tmp 53]) rfl ?_); at_builtin; refine Kd.R_append k28 (w0 := w4) w4.heap.size rfl (.tmp 51) (.tmp 53) 23 28 (.agg #[.string ⟨#[]⟩, .string ⟨#[]⟩]) 32 rfl Tryz.underlying23 info28 rfl (by decide) (by omega) v5 ([] ++ fs) (⟨r1, r2⟩ : Fld) [.string r1, .string r2] (fun _ => True) (fun _ => False) rfl rfl ?aP (fun _ hk => hk.elim) (fun _ _ => trivial) ?aO ?aB ?aS ?aL ?_; (case aP => exact k28_mkM _ _ _ (⟨r1, r2⟩ : Fld)); (case aO => exact HO5.out); (case aB => exact HB5.out); (case aS => exact HB5.out.size); (case aL => simp only [List.nil_append]; omega); intro v6 w6 ho6 hb6 hg6 hat6; rw [List.nil_append] at ho6; have HO6 := Aside0.mk ho6; have HB6 := Aside0.mk hb6; obtain ⟨A6, c6, e6⟩ := Kd.R_slice ho6; subst e6; have hS6 := HS.out w6 hb6; have t0 : w6.cell? ⟨w.heap.size, 0, none⟩ = some (Value.int .i64 9) := (blk_cell hS6 0).trans rfl; have t1 : w6.cell? ⟨w.heap.size, 1, none⟩ = some (Value.int .u64 n) := (blk_cell hS6 1).trans rfl; have t2 : w6.cell? ⟨w.heap.size, 2, none⟩ = some (Value.int .i64 co) := (blk_cell hS6 2).trans rfl; have t3 : w6.cell? ⟨w.heap.size, 3, none⟩ = some (Value.int .i64 li) := (blk_cell hS6 3).trans rfl; have t4 : w6.cell? ⟨w.heap.size, 4, none⟩ = some (Value.int .i64 (sz + 1)) := (blk_cell hS6 4).trans rfl; have t5 : w6.cell? ⟨w.heap.size, 5, none⟩ = some (Value.string tx) := (blk_cell hS6 5).trans rfl; have t6 : w6.cell? ⟨w.heap.size, 6, none⟩ = some (Value.slice A0 n0 k0) := (blk_cell hS6 6).trans rfl; have t7 : w6.cell? ⟨w.heap.size, 7, none⟩ = some (Value.slice A1 fs.length k1) := (blk_cell hS6 7).trans rfl; have f0 := blk_frozen hS6 0; have f5 := blk_frozen hS6 5; have f7 := blk_frozen hS6 7; have hR6 := HRR.out w6 hb6; have u0 : w6.cell? ⟨w.heap.size + 1 + 1, 0, none⟩ = some (Value.int .i64 0) := (blk_cell hR6 0).trans rfl; have u1 : w6.cell? ⟨w.heap.size + 1 + 1, 1, none⟩ = some (Value.int .u64 0) := (blk_cell hR6 1).trans rfl; have u2 : w6.cell? ⟨w.heap.size + 1 + 1, 2, none⟩ = some (Value.int .i64 0) := (blk_cell hR6 2).trans rfl; have u3 : w6.cell? ⟨w.heap.size + 1 + 1, 3, none⟩ = some (Value.int .i64 0) := (blk_cell hR6 3).trans rfl; have u4 : w6.cell? ⟨w.heap.size + 1 + 1, 4, none⟩ = some (Value.int .i64 0) := (blk_cell hR6 4).trans rfl; have u5 : w6.cell? ⟨w.heap.size + 1 + 1, 5, none⟩ = some (Value.string ⟨#[]⟩) := (blk_cell hR6 5).trans rfl; have u6 : w6.cell? ⟨w.heap.size + 1 + 1, 6, none⟩ = some (Value.slice none 0 0) := (blk_cell hR6 6).trans rfl; have u7 : w6.cell? ⟨w.heap.size + 1 + 1, 7, none⟩ = some (Value.slice none 0 0) := (blk_cell hR6 7).trans rfl; have g0 := blk_frozen hR6 0; have g1 := blk_frozen hR6 1; have g2 := blk_frozen hR6 2; have g3 := blk_frozen hR6 3; have g4 := blk_frozen hR6 4; have g5 := blk_frozen hR6 5; have g6 := blk_frozen hR6 6; have g7 := blk_frozen hR6 7; have HR6 := Aside0.mk hR6; clear hR6; clear ho6 hb6 hg6 hat6 hS6 HO5))
  go_wp2
  have key : ∀ W, (∀ k, w4.heap.size ≤ k → W.heap[k]? = w6.heap[k]?) → (fs ++ [(⟨r1, r2⟩ : Fld)]).length ≤ c6 ∧ Kd.C k28 W A6 (fs ++ [(⟨r1, r2⟩ : Fld)]).length (fs ++ [⟨r1, r2⟩]) := fun W hW => by
    obtain ⟨_, _, q, hle, hC⟩ := Kd.R_reads (Kd.R_move (Kd.R_bound HO6.out) (fun k hk => hW k hk.2.1))
    cases q
    exact ⟨hle, hC⟩
  have hkk : ∀ k, w4.heap.size ≤ k → k ≠ w.heap.size ∧ k ≠ w.heap.size + 1 + 1 := fun k hk => by omega
  have hRS : w.heap.size + 1 + 1 ≠ w.heap.size := by omega
  refine bodyPost_ret (results_ct rfl _ _ (w.heap.size + 1 + 1) 82 _ (0, 0) _ (by rfl) (by exact put8 (by rw [farH _ _ _ _ _ hRS, farH _ _ _ _ _ hRS, farH _ _ _ _ _ hRS]; exact HR6.out) _ _ _ _ _ _ _ _) Tryz.underlying82 rfl (by kernel_rfl)) rfl ⟨A6, c6, by rw [List.length_append]; rfl, (key w6 (fun _ _ => rfl)).1, fun W' hW' => (key W' (fun k hk => (hW' k (by omega)).trans ?_)).2, ?_⟩
  · obtain ⟨q1, q2⟩ := hkk k hk
    rw [farH _ _ _ _ _ q2, farH _ _ _ _ _ q2, farH _ _ _ _ _ q2, farH _ _ _ _ _ q2, farH _ _ _ _ _ q2, farH _ _ _ _ _ q2, farH _ _ _ _ _ q2, farH _ _ _ _ _ q2, farH _ _ _ _ _ q1, farH _ _ _ _ _ q1, farH _ _ _ _ _ q1]
  · have hbb := B4.out.trans (HB6.out.mono B4.out.size)
    repeat (refine bset ?_ _ _ _ (by omega))
    exact hbb
end Go.Proofs.YtmmbpbgcobmifaaGreatDoorH
end
section
namespace Go.Proofs.YtmmbpbgcobmifaaGreatDoor.Pr
end Go.Proofs.YtmmbpbgcobmifaaGreatDoor.Pr
namespace Go.Proofs.YtmmbpbgcobmifaaGreatDoorH
set_option linter.unusedVariables false
set_option linter.unusedSimpArgs false
open Go Go.RowKit Go.Proofs.YtmmbpbgcobmifaaGreatDoorW.PrintWords Go.Proofs.YtmmbpbgcobmifaaGreatDoorW.PrintLast Go.Proofs.YtmmbpbgcobmifaaGreatDoorW.PrintMore Go.Proofs.YtmmbpbgcobmifaaGreatDoor.Pr Go.Proofs.YtmmbpbgcobmifaaGreatDoorM
set_option maxHeartbeats 4000000 in
set_option maxRecDepth 100000 in
theorem st8_9b (n co li sz : Int) (tx : ByteArray) (A0 A1 : Option Addr) (n0 n1 k0 k1 : Nat) (c l0 l1 l2 p3 sz3 er : Int) (tx3 : ByteArray) (w : World) (hG : TabOk w) (h3 : (c != 10) = false)
    (HL : ∀ W, Below w.heap.size w W → Calls Tryz.prog 55 #[stV 9 n co li sz tx (.slice A0 n0 k0) (.slice A1 n1 k1), .int .u8 c, .agg #[.int .i64 l0, .int .i64 l1, .int .i64 l2]] W fun e w' => e = .returned (.tuple #[stV p3 n co li sz3 tx3 (.slice A0 n0 k0) (.slice A1 n1 k1), .int .i64 er]) ∧ Below W.heap.size W w') :
    Calls Tryz.prog 43 #[stV 9 n co li sz tx (.slice A0 n0 k0) (.slice A1 n1 k1), .int .u8 c, .agg #[.int .i64 l0, .int .i64 l1, .int .i64 l2]] w fun e w' => e = .returned (.tuple #[stV p3 n co li sz3 tx3 (.slice A0 n0 k0) (.slice A1 n1 k1), .int .i64 er]) ∧ Below w.heap.size w w' := by
  have HL := Aside0.mk HL
  clear hG
  go_enter Tryz.func43, Tryz.ntmps43
  go_wp2_with fail
  refine (HL.out _ (below3 (Below.refl _ _) _ _ _)).mono ?_
  rintro e w5 ⟨rfl, hb5⟩
  have hR5 : w5.heap[w.heap.size + 1 + 1]? = some (.cells #[Value.int .i64 0, Value.int .u64 0, Value.int .i64 0, Value.int .i64 0, Value.int .i64 0, Value.string ⟨#[]⟩, Value.slice none 0 0, Value.slice none 0 0] 82 (0, 0)) := (hb5.block _ (by simp only [World.size_alloc]; omega)).trans (by exact blk3 w _ _ _ _)
  have HR5 := Aside0.mk hR5
  have HA := Aside0.mk (fun W W' (h : Below w.heap.size w W) (h2 : Below W.heap.size W W') => h.trans (h2.mono h.size))
  have B5 := Aside0.mk (HA.out _ _ (by exact below3 (Below.refl _ _) _ _ _) hb5)
  have u0 : w5.cell? ⟨w.heap.size + 1 + 1, 0, none⟩ = some (Value.int .i64 0) := (blk_cell hR5 0).trans rfl
  have g0 := blk_frozen hR5 0
  have u1 : w5.cell? ⟨w.heap.size + 1 + 1, 1, none⟩ = some (Value.int .u64 0) := (blk_cell hR5 1).trans rfl
  have g1 := blk_frozen hR5 1
  have u2 : w5.cell? ⟨w.heap.size + 1 + 1, 2, none⟩ = some (Value.int .i64 0) := (blk_cell hR5 2).trans rfl
  have g2 := blk_frozen hR5 2
  have u3 : w5.cell? ⟨w.heap.size + 1 + 1, 3, none⟩ = some (Value.int .i64 0) := (blk_cell hR5 3).trans rfl
  have g3 := blk_frozen hR5 3
  have u4 : w5.cell? ⟨w.heap.size + 1 + 1, 4, none⟩ = some (Value.int .i64 0) := (blk_cell hR5 4).trans rfl
  have g4 := blk_frozen hR5 4
  have u5 : w5.cell? ⟨w.heap.size + 1 + 1, 5, none⟩ = some (Value.string ⟨#[]⟩) := (blk_cell hR5 5).trans rfl
  have g5 := blk_frozen hR5 5
  have u6 : w5.cell? ⟨w.heap.size + 1 + 1, 6, none⟩ = some (Value.slice none 0 0) := (blk_cell hR5 6).trans rfl
  have g6 := blk_frozen hR5 6
  have u7 : w5.cell? ⟨w.heap.size + 1 + 1, 7, none⟩ = some (Value.slice none 0 0) := (blk_cell hR5 7).trans rfl
  have g7 := blk_frozen hR5 7
  clear hR5 hb5
  go_wp2
  refine bodyPost_ret (results_ct rfl _ _ (w.heap.size + 1 + 1) 82 _ (0, 0) _ (by rfl) (by exact put8 HR5.out _ _ _ _ _ _ _ _) Tryz.underlying82 rfl (by kernel_rfl)) rfl ⟨rfl, ?_⟩
  have hbb := B5.out
  repeat (refine bset ?_ _ _ _ (by omega))
  exact hbb
set_option maxHeartbeats 4000000 in
set_option maxRecDepth 100000 in
theorem st8_7a (n co li sz : Int) (tx : ByteArray) (A0 A1 : Option Addr) (n0 n1 k0 k1 : Nat) (c l0 l1 l2 p3 sz3 er : Int) (tx3 : ByteArray) (w : World) (hG : TabOk w) (h3 : (c == 58) = true)
    (HL : ∀ W, Below w.heap.size w W → Calls Tryz.prog 55 #[stV 8 n co li sz tx (.slice A0 n0 k0) (.slice A1 n1 k1), .int .u8 c, .agg #[.int .i64 l0, .int .i64 l1, .int .i64 l2]] W fun e w' => e = .returned (.tuple #[stV p3 n co li sz3 tx3 (.slice A0 n0 k0) (.slice A1 n1 k1), .int .i64 er]) ∧ Below W.heap.size W w') :
    Calls Tryz.prog 43 #[stV 7 n co li sz tx (.slice A0 n0 k0) (.slice A1 n1 k1), .int .u8 c, .agg #[.int .i64 l0, .int .i64 l1, .int .i64 l2]] w fun e w' => e = .returned (.tuple #[stV p3 n co li sz3 tx3 (.slice A0 n0 k0) (.slice A1 n1 k1), .int .i64 er]) ∧ Below w.heap.size w w' := by
  have HL := Aside0.mk HL
  clear hG
  go_enter Tryz.func43, Tryz.ntmps43
  go_wp2_with fail
  refine (HL.out _ (below3 (Below.refl _ _) _ _ _)).mono ?_
  rintro e w5 ⟨rfl, hb5⟩
  have hR5 : w5.heap[w.heap.size + 1 + 1]? = some (.cells #[Value.int .i64 0, Value.int .u64 0, Value.int .i64 0, Value.int .i64 0, Value.int .i64 0, Value.string ⟨#[]⟩, Value.slice none 0 0, Value.slice none 0 0] 82 (0, 0)) := (hb5.block _ (by simp only [World.size_alloc]; omega)).trans (by exact blk3 w _ _ _ _)
  have HR5 := Aside0.mk hR5
  have HA := Aside0.mk (fun W W' (h : Below w.heap.size w W) (h2 : Below W.heap.size W W') => h.trans (h2.mono h.size))
  have B5 := Aside0.mk (HA.out _ _ (by exact below3 (Below.refl _ _) _ _ _) hb5)
  have u0 : w5.cell? ⟨w.heap.size + 1 + 1, 0, none⟩ = some (Value.int .i64 0) := (blk_cell hR5 0).trans rfl
  have g0 := blk_frozen hR5 0
  have u1 : w5.cell? ⟨w.heap.size + 1 + 1, 1, none⟩ = some (Value.int .u64 0) := (blk_cell hR5 1).trans rfl
  have g1 := blk_frozen hR5 1
  have u2 : w5.cell? ⟨w.heap.size + 1 + 1, 2, none⟩ = some (Value.int .i64 0) := (blk_cell hR5 2).trans rfl
  have g2 := blk_frozen hR5 2
  have u3 : w5.cell? ⟨w.heap.size + 1 + 1, 3, none⟩ = some (Value.int .i64 0) := (blk_cell hR5 3).trans rfl
  have g3 := blk_frozen hR5 3
  have u4 : w5.cell? ⟨w.heap.size + 1 + 1, 4, none⟩ = some (Value.int .i64 0) := (blk_cell hR5 4).trans rfl
  have g4 := blk_frozen hR5 4
  have u5 : w5.cell? ⟨w.heap.size + 1 + 1, 5, none⟩ = some (Value.string ⟨#[]⟩) := (blk_cell hR5 5).trans rfl
  have g5 := blk_frozen hR5 5
  have u6 : w5.cell? ⟨w.heap.size + 1 + 1, 6, none⟩ = some (Value.slice none 0 0) := (blk_cell hR5 6).trans rfl
  have g6 := blk_frozen hR5 6
  have u7 : w5.cell? ⟨w.heap.size + 1 + 1, 7, none⟩ = some (Value.slice none 0 0) := (blk_cell hR5 7).trans rfl
  have g7 := blk_frozen hR5 7
  clear hR5 hb5
  go_wp2
  refine bodyPost_ret (results_ct rfl _ _ (w.heap.size + 1 + 1) 82 _ (0, 0) _ (by rfl) (by exact put8 HR5.out _ _ _ _ _ _ _ _) Tryz.underlying82 rfl (by kernel_rfl)) rfl ⟨rfl, ?_⟩
  have hbb := B5.out
  repeat (refine bset ?_ _ _ _ (by omega))
  exact hbb
set_option maxHeartbeats 4000000 in
set_option maxRecDepth 100000 in
theorem st8_8a (n co li sz : Int) (tx : ByteArray) (A0 A1 : Option Addr) (n0 n1 k0 k1 : Nat) (c l0 l1 l2 p3 sz3 er : Int) (tx3 : ByteArray) (w : World) (hG : TabOk w) (h3 : (c == 13) = true)
    (HL : ∀ W, Below w.heap.size w W → Calls Tryz.prog 55 #[stV 9 n co li sz tx (.slice A0 n0 k0) (.slice A1 n1 k1), .int .u8 c, .agg #[.int .i64 l0, .int .i64 l1, .int .i64 l2]] W fun e w' => e = .returned (.tuple #[stV p3 n co li sz3 tx3 (.slice A0 n0 k0) (.slice A1 n1 k1), .int .i64 er]) ∧ Below W.heap.size W w') :
    Calls Tryz.prog 43 #[stV 8 n co li sz tx (.slice A0 n0 k0) (.slice A1 n1 k1), .int .u8 c, .agg #[.int .i64 l0, .int .i64 l1, .int .i64 l2]] w fun e w' => e = .returned (.tuple #[stV p3 n co li sz3 tx3 (.slice A0 n0 k0) (.slice A1 n1 k1), .int .i64 er]) ∧ Below w.heap.size w w' := by
  have HL := Aside0.mk HL
  clear hG
  go_enter Tryz.func43, Tryz.ntmps43
  go_wp2_with fail
  refine (HL.out _ (below3 (Below.refl _ _) _ _ _)).mono ?_
  rintro e w5 ⟨rfl, hb5⟩
  have hR5 : w5.heap[w.heap.size + 1 + 1]? = some (.cells #[Value.int .i64 0, Value.int .u64 0, Value.int .i64 0, Value.int .i64 0, Value.int .i64 0, Value.string ⟨#[]⟩, Value.slice none 0 0, Value.slice none 0 0] 82 (0, 0)) := (hb5.block _ (by simp only [World.size_alloc]; omega)).trans (by exact blk3 w _ _ _ _)
  have HR5 := Aside0.mk hR5
  have HA := Aside0.mk (fun W W' (h : Below w.heap.size w W) (h2 : Below W.heap.size W W') => h.trans (h2.mono h.size))
  have B5 := Aside0.mk (HA.out _ _ (by exact below3 (Below.refl _ _) _ _ _) hb5)
  have u0 : w5.cell? ⟨w.heap.size + 1 + 1, 0, none⟩ = some (Value.int .i64 0) := (blk_cell hR5 0).trans rfl
  have g0 := blk_frozen hR5 0
  have u1 : w5.cell? ⟨w.heap.size + 1 + 1, 1, none⟩ = some (Value.int .u64 0) := (blk_cell hR5 1).trans rfl
  have g1 := blk_frozen hR5 1
  have u2 : w5.cell? ⟨w.heap.size + 1 + 1, 2, none⟩ = some (Value.int .i64 0) := (blk_cell hR5 2).trans rfl
  have g2 := blk_frozen hR5 2
  have u3 : w5.cell? ⟨w.heap.size + 1 + 1, 3, none⟩ = some (Value.int .i64 0) := (blk_cell hR5 3).trans rfl
  have g3 := blk_frozen hR5 3
  have u4 : w5.cell? ⟨w.heap.size + 1 + 1, 4, none⟩ = some (Value.int .i64 0) := (blk_cell hR5 4).trans rfl
  have g4 := blk_frozen hR5 4
  have u5 : w5.cell? ⟨w.heap.size + 1 + 1, 5, none⟩ = some (Value.string ⟨#[]⟩) := (blk_cell hR5 5).trans rfl
  have g5 := blk_frozen hR5 5
  have u6 : w5.cell? ⟨w.heap.size + 1 + 1, 6, none⟩ = some (Value.slice none 0 0) := (blk_cell hR5 6).trans rfl
  have g6 := blk_frozen hR5 6
  have u7 : w5.cell? ⟨w.heap.size + 1 + 1, 7, none⟩ = some (Value.slice none 0 0) := (blk_cell hR5 7).trans rfl
  have g7 := blk_frozen hR5 7
  clear hR5 hb5
  go_wp2
  refine bodyPost_ret (results_ct rfl _ _ (w.heap.size + 1 + 1) 82 _ (0, 0) _ (by rfl) (by exact put8 HR5.out _ _ _ _ _ _ _ _) Tryz.underlying82 rfl (by kernel_rfl)) rfl ⟨rfl, ?_⟩
  have hbb := B5.out
  repeat (refine bset ?_ _ _ _ (by omega))
  exact hbb
set_option maxHeartbeats 4000000 in
set_option maxRecDepth 100000 in
theorem st8_8c (n co li sz : Int) (tx : ByteArray) (A0 A1 : Option Addr) (n0 n1 k0 k1 : Nat) (c l0 l1 l2 p3 sz3 er : Int) (tx3 : ByteArray) (w : World) (hG : TabOk w) (h3 : (c == 13) = false) (hbyt : catchpitref02_Byte.f c = some true)
    (HL : ∀ W, Below w.heap.size w W → Calls Tryz.prog 55 #[stV 8 n co li sz tx (.slice A0 n0 k0) (.slice A1 n1 k1), .int .u8 c, .agg #[.int .i64 l0, .int .i64 l1, .int .i64 l2]] W fun e w' => e = .returned (.tuple #[stV p3 n co li sz3 tx3 (.slice A0 n0 k0) (.slice A1 n1 k1), .int .i64 er]) ∧ Below W.heap.size W w') :
    Calls Tryz.prog 43 #[stV 8 n co li sz tx (.slice A0 n0 k0) (.slice A1 n1 k1), .int .u8 c, .agg #[.int .i64 l0, .int .i64 l1, .int .i64 l2]] w fun e w' => e = .returned (.tuple #[stV p3 n co li sz3 tx3 (.slice A0 n0 k0) (.slice A1 n1 k1), .int .i64 er]) ∧ Below w.heap.size w w' := by
  have HL := Aside0.mk HL
  have HC := Aside0.mk (fun (W : World) (h : Below w.heap.size w W) => catchpitref02_Byte.calls c true W (hG.below h) hbyt)
  clear hG
  go_enter Tryz.func43, Tryz.ntmps43
  go_wp2_with fail
  refine (HC.out _ (below3 (Below.refl _ _) _ _ _)).mono ?_
  rintro e w4 ⟨rfl, hd4⟩
  obtain ⟨w2, rfl, hs2, hb2⟩ := drawn3 hd4
  clear hd4
  go_wp2_with fail
  refine (HL.out _ (below3 hb2 _ _ _)).mono ?_
  rintro e w5 ⟨rfl, hb5⟩
  have hR5 : w5.heap[w.heap.size + 1 + 1]? = some (.cells #[Value.int .i64 0, Value.int .u64 0, Value.int .i64 0, Value.int .i64 0, Value.int .i64 0, Value.string ⟨#[]⟩, Value.slice none 0 0, Value.slice none 0 0] 82 (0, 0)) := (hb5.block _ (by simp only [World.size_alloc]; omega)).trans (by rw [← hs2]; exact blk3 w2 _ _ _ _)
  have HR5 := Aside0.mk hR5
  have HA := Aside0.mk (fun W W' (h : Below w.heap.size w W) (h2 : Below W.heap.size W W') => h.trans (h2.mono h.size))
  have B5 := Aside0.mk (HA.out _ _ (by exact below3 hb2 _ _ _) hb5)
  have u0 : w5.cell? ⟨w.heap.size + 1 + 1, 0, none⟩ = some (Value.int .i64 0) := (blk_cell hR5 0).trans rfl
  have g0 := blk_frozen hR5 0
  have u1 : w5.cell? ⟨w.heap.size + 1 + 1, 1, none⟩ = some (Value.int .u64 0) := (blk_cell hR5 1).trans rfl
  have g1 := blk_frozen hR5 1
  have u2 : w5.cell? ⟨w.heap.size + 1 + 1, 2, none⟩ = some (Value.int .i64 0) := (blk_cell hR5 2).trans rfl
  have g2 := blk_frozen hR5 2
  have u3 : w5.cell? ⟨w.heap.size + 1 + 1, 3, none⟩ = some (Value.int .i64 0) := (blk_cell hR5 3).trans rfl
  have g3 := blk_frozen hR5 3
  have u4 : w5.cell? ⟨w.heap.size + 1 + 1, 4, none⟩ = some (Value.int .i64 0) := (blk_cell hR5 4).trans rfl
  have g4 := blk_frozen hR5 4
  have u5 : w5.cell? ⟨w.heap.size + 1 + 1, 5, none⟩ = some (Value.string ⟨#[]⟩) := (blk_cell hR5 5).trans rfl
  have g5 := blk_frozen hR5 5
  have u6 : w5.cell? ⟨w.heap.size + 1 + 1, 6, none⟩ = some (Value.slice none 0 0) := (blk_cell hR5 6).trans rfl
  have g6 := blk_frozen hR5 6
  have u7 : w5.cell? ⟨w.heap.size + 1 + 1, 7, none⟩ = some (Value.slice none 0 0) := (blk_cell hR5 7).trans rfl
  have g7 := blk_frozen hR5 7
  clear hR5 hb5
  go_wp2
  refine bodyPost_ret (results_ct rfl _ _ (w.heap.size + 1 + 1) 82 _ (0, 0) _ (by rfl) (by exact put8 HR5.out _ _ _ _ _ _ _ _) Tryz.underlying82 rfl (by kernel_rfl)) rfl ⟨rfl, ?_⟩
  have hbb := B5.out
  repeat (refine bset ?_ _ _ _ (by omega))
  exact hbb
set_option maxHeartbeats 4000000 in
set_option maxRecDepth 100000 in
theorem st8_7c (n co li sz : Int) (tx : ByteArray) (A0 A1 : Option Addr) (n0 n1 k0 k1 : Nat) (c l0 l1 l2 p3 sz3 er : Int) (tx3 : ByteArray) (w : World) (hG : TabOk w) (h3 : (c == 58) = false) (k : Nat) (htok : catchpitref02_Token.f k (strOfNums [c]) = some true)
    (HL : ∀ W, Below w.heap.size w W → Calls Tryz.prog 55 #[stV 7 n co li sz tx (.slice A0 n0 k0) (.slice A1 n1 k1), .int .u8 c, .agg #[.int .i64 l0, .int .i64 l1, .int .i64 l2]] W fun e w' => e = .returned (.tuple #[stV p3 n co li sz3 tx3 (.slice A0 n0 k0) (.slice A1 n1 k1), .int .i64 er]) ∧ Below W.heap.size W w') :
    Calls Tryz.prog 43 #[stV 7 n co li sz tx (.slice A0 n0 k0) (.slice A1 n1 k1), .int .u8 c, .agg #[.int .i64 l0, .int .i64 l1, .int .i64 l2]] w fun e w' => e = .returned (.tuple #[stV p3 n co li sz3 tx3 (.slice A0 n0 k0) (.slice A1 n1 k1), .int .i64 er]) ∧ Below w.heap.size w w' := by
  have HL := Aside0.mk HL
  have HC := Aside0.mk (fun (W : World) (h : Below w.heap.size w W) => catchpitref02_Token.calls k (strOfNums [c]) true W (hG.below h) htok)
  have hcv := one_byte4 w c
  clear hG
  go_enter Tryz.func43, Tryz.ntmps43
  go_wp2_with fail
  refine (HC.out _ (below_alloc (below3 (Below.refl _ _) _ _ _) _)).mono ?_
  rintro e w4 ⟨rfl, hd4⟩
  obtain ⟨w2, rfl, hs2, hb2⟩ := drawn4 hd4
  clear hd4
  go_wp2_with fail
  refine (HL.out _ (below_alloc (below3 hb2 _ _ _) _)).mono ?_
  rintro e w5 ⟨rfl, hb5⟩
  have hR5 : w5.heap[w.heap.size + 1 + 1]? = some (.cells #[Value.int .i64 0, Value.int .u64 0, Value.int .i64 0, Value.int .i64 0, Value.int .i64 0, Value.string ⟨#[]⟩, Value.slice none 0 0, Value.slice none 0 0] 82 (0, 0)) := (hb5.block _ (by simp only [World.size_alloc]; omega)).trans (by rw [← hs2]; exact blk4 w2 _ _ _ _ _)
  have HR5 := Aside0.mk hR5
  have HA := Aside0.mk (fun W W' (h : Below w.heap.size w W) (h2 : Below W.heap.size W W') => h.trans (h2.mono h.size))
  have B5 := Aside0.mk (HA.out _ _ (by exact below_alloc (below3 hb2 _ _ _) _) hb5)
  have u0 : w5.cell? ⟨w.heap.size + 1 + 1, 0, none⟩ = some (Value.int .i64 0) := (blk_cell hR5 0).trans rfl
  have g0 := blk_frozen hR5 0
  have u1 : w5.cell? ⟨w.heap.size + 1 + 1, 1, none⟩ = some (Value.int .u64 0) := (blk_cell hR5 1).trans rfl
  have g1 := blk_frozen hR5 1
  have u2 : w5.cell? ⟨w.heap.size + 1 + 1, 2, none⟩ = some (Value.int .i64 0) := (blk_cell hR5 2).trans rfl
  have g2 := blk_frozen hR5 2
  have u3 : w5.cell? ⟨w.heap.size + 1 + 1, 3, none⟩ = some (Value.int .i64 0) := (blk_cell hR5 3).trans rfl
  have g3 := blk_frozen hR5 3
  have u4 : w5.cell? ⟨w.heap.size + 1 + 1, 4, none⟩ = some (Value.int .i64 0) := (blk_cell hR5 4).trans rfl
  have g4 := blk_frozen hR5 4
  have u5 : w5.cell? ⟨w.heap.size + 1 + 1, 5, none⟩ = some (Value.string ⟨#[]⟩) := (blk_cell hR5 5).trans rfl
  have g5 := blk_frozen hR5 5
  have u6 : w5.cell? ⟨w.heap.size + 1 + 1, 6, none⟩ = some (Value.slice none 0 0) := (blk_cell hR5 6).trans rfl
  have g6 := blk_frozen hR5 6
  have u7 : w5.cell? ⟨w.heap.size + 1 + 1, 7, none⟩ = some (Value.slice none 0 0) := (blk_cell hR5 7).trans rfl
  have g7 := blk_frozen hR5 7
  clear hR5 hb5
  go_wp2
  refine bodyPost_ret (results_ct rfl _ _ (w.heap.size + 1 + 1) 82 _ (0, 0) _ (by rfl) (by exact put8 HR5.out _ _ _ _ _ _ _ _) Tryz.underlying82 rfl (by kernel_rfl)) rfl ⟨rfl, ?_⟩
  have hbb := B5.out
  repeat (refine bset ?_ _ _ _ (by omega))
  exact hbb
set_option maxHeartbeats 4000000 in
set_option maxRecDepth 100000 in
theorem st8_6d (n co li sz : Int) (tx : ByteArray) (A0 A1 : Option Addr) (n0 n1 k0 k1 : Nat) (c l0 l1 l2 p3 sz3 er : Int) (tx3 : ByteArray) (w : World) (hG : TabOk w) (h3 : (c == 13) = false) (h4 : ¬ l1 ≤ li) (hw : IntKind.i64.wrap (li + 1) = li + 1) (k : Nat) (htok : catchpitref02_Token.f k (strOfNums [c]) = some true)
    (HL : ∀ W, Below w.heap.size w W → Calls Tryz.prog 55 #[stV 7 n co (li + 1) sz tx (.slice A0 n0 k0) (.slice A1 n1 k1), .int .u8 c, .agg #[.int .i64 l0, .int .i64 l1, .int .i64 l2]] W fun e w' => e = .returned (.tuple #[stV p3 n co (li + 1) sz3 tx3 (.slice A0 n0 k0) (.slice A1 n1 k1), .int .i64 er]) ∧ Below W.heap.size W w') :
    Calls Tryz.prog 43 #[stV 6 n co li sz tx (.slice A0 n0 k0) (.slice A1 n1 k1), .int .u8 c, .agg #[.int .i64 l0, .int .i64 l1, .int .i64 l2]] w fun e w' => e = .returned (.tuple #[stV p3 n co (li + 1) sz3 tx3 (.slice A0 n0 k0) (.slice A1 n1 k1), .int .i64 er]) ∧ Below w.heap.size w w' := by
  have HL := Aside0.mk HL
  have HC := Aside0.mk (fun (W : World) (h : Below w.heap.size w W) => catchpitref02_Token.calls k (strOfNums [c]) true W (hG.below h) htok)
  have hcv := one_byte4 w c
  clear hG
  go_enter Tryz.func43, Tryz.ntmps43
  go_wp2_with fail
  refine (HC.out _ (below_alloc (below3 (Below.refl _ _) _ _ _) _)).mono ?_
  rintro e w4 ⟨rfl, hd4⟩
  obtain ⟨w2, rfl, hs2, hb2⟩ := drawn4 hd4
  clear hd4
  go_wp2_with fail
  refine (HL.out _ (below_alloc (below3 hb2 _ _ _) _)).mono ?_
  rintro e w5 ⟨rfl, hb5⟩
  have hR5 : w5.heap[w.heap.size + 1 + 1]? = some (.cells #[Value.int .i64 0, Value.int .u64 0, Value.int .i64 0, Value.int .i64 0, Value.int .i64 0, Value.string ⟨#[]⟩, Value.slice none 0 0, Value.slice none 0 0] 82 (0, 0)) := (hb5.block _ (by simp only [World.size_alloc]; omega)).trans (by rw [← hs2]; exact blk4 w2 _ _ _ _ _)
  have HR5 := Aside0.mk hR5
  have HA := Aside0.mk (fun W W' (h : Below w.heap.size w W) (h2 : Below W.heap.size W W') => h.trans (h2.mono h.size))
  have B5 := Aside0.mk (HA.out _ _ (by exact below_alloc (below3 hb2 _ _ _) _) hb5)
  have u0 : w5.cell? ⟨w.heap.size + 1 + 1, 0, none⟩ = some (Value.int .i64 0) := (blk_cell hR5 0).trans rfl
  have g0 := blk_frozen hR5 0
  have u1 : w5.cell? ⟨w.heap.size + 1 + 1, 1, none⟩ = some (Value.int .u64 0) := (blk_cell hR5 1).trans rfl
  have g1 := blk_frozen hR5 1
  have u2 : w5.cell? ⟨w.heap.size + 1 + 1, 2, none⟩ = some (Value.int .i64 0) := (blk_cell hR5 2).trans rfl
  have g2 := blk_frozen hR5 2
  have u3 : w5.cell? ⟨w.heap.size + 1 + 1, 3, none⟩ = some (Value.int .i64 0) := (blk_cell hR5 3).trans rfl
  have g3 := blk_frozen hR5 3
  have u4 : w5.cell? ⟨w.heap.size + 1 + 1, 4, none⟩ = some (Value.int .i64 0) := (blk_cell hR5 4).trans rfl
  have g4 := blk_frozen hR5 4
  have u5 : w5.cell? ⟨w.heap.size + 1 + 1, 5, none⟩ = some (Value.string ⟨#[]⟩) := (blk_cell hR5 5).trans rfl
  have g5 := blk_frozen hR5 5
  have u6 : w5.cell? ⟨w.heap.size + 1 + 1, 6, none⟩ = some (Value.slice none 0 0) := (blk_cell hR5 6).trans rfl
  have g6 := blk_frozen hR5 6
  have u7 : w5.cell? ⟨w.heap.size + 1 + 1, 7, none⟩ = some (Value.slice none 0 0) := (blk_cell hR5 7).trans rfl
  have g7 := blk_frozen hR5 7
  clear hR5 hb5
  go_wp2
  refine bodyPost_ret (results_ct rfl _ _ (w.heap.size + 1 + 1) 82 _ (0, 0) _ (by rfl) (by exact put8 HR5.out _ _ _ _ _ _ _ _) Tryz.underlying82 rfl (by kernel_rfl)) rfl ⟨rfl, ?_⟩
  have hbb := B5.out
  repeat (refine bset ?_ _ _ _ (by omega))
  exact hbb
end Go.Proofs.YtmmbpbgcobmifaaGreatDoorH
end
