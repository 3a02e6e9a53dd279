import Derived.Test.YtmmbpbgcobmifaaGreatDoorZOutletWholesP8
import Derived.Test.YtmmbpbgcobmifaaGreatDoorZOutletWholesP3
import Derived.Test.YtmmbpbgcobmifaaGreatDoorZOutletWholesP4
import Derived.Test.YtmmbpbgcobmifaaGreatDoorZOutletWholesP7
import Derived.Test.YtmmbpbgcobmifaaGreatDoorZOutletWholesP1
namespace Go.Proofs.YtmmbpbgcobmifaaGreatDoorW.PrintWords
end Go.Proofs.YtmmbpbgcobmifaaGreatDoorW.PrintWords
namespace Go.Proofs.YtmmbpbgcobmifaaGreatDoorW.PrintLast
end Go.Proofs.YtmmbpbgcobmifaaGreatDoorW.PrintLast
namespace Go.Proofs.YtmmbpbgcobmifaaGreatDoorW.PrintMore
end Go.Proofs.YtmmbpbgcobmifaaGreatDoorW.PrintMore
namespace Go.Proofs.YtmmbpbgcobmifaaGreatDoor.Pr
end Go.Proofs.YtmmbpbgcobmifaaGreatDoor.Pr
namespace Go.Proofs.YtmmbpbgcobmifaaGreatDoorM
end Go.Proofs.YtmmbpbgcobmifaaGreatDoorM
namespace Go.Proofs.YtmmbpbgcobmifaaGreatDoorH
end Go.Proofs.YtmmbpbgcobmifaaGreatDoorH
section
namespace Go.Proofs.YtmmbpbgcobmifaaGreatDoor.Pr
end Go.Proofs.YtmmbpbgcobmifaaGreatDoor.Pr
namespace Go.Proofs.YtmmbpbgcobmifaaGreatDoorH
set_option linter.unusedVariables false
set_option linter.unusedSimpArgs false
open Go Go.RowKit Go.Proofs.YtmmbpbgcobmifaaGreatDoorW.PrintWords Go.Proofs.YtmmbpbgcobmifaaGreatDoorW.PrintLast Go.Proofs.YtmmbpbgcobmifaaGreatDoorW.PrintMore Go.Proofs.YtmmbpbgcobmifaaGreatDoor.Pr Go.Proofs.YtmmbpbgcobmifaaGreatDoorM
theorem fresh_row {N : Nat} {w' : World} {A2 : Option Addr} {fx : List Fld} (hC : ∀ W', (∀ k, N ≤ k → W'.heap[k]? = w'.heap[k]?) → Kd.C k28 W' A2 fx.length fx) (hp : 0 < fx.length) : ∀ ad, A2 = some ad → N ≤ ad.block := by
  intro ad e
  have h := hC { w' with heap := w'.heap.mapIdx (fun i o => if i < N then .cells #[] 0 (0, 0) else o) } (fun k hk => by
    show (w'.heap.mapIdx _)[k]? = _
    rw [Array.getElem?_mapIdx]
    cases hq : w'.heap[k]? with
    | none => rfl
    | some o => simp [show ¬ k < N by omega])
  obtain ⟨ad', e', hc⟩ := h.2.2 hp
  rw [e] at e'
  cases e'
  obtain ⟨cs, _, hK, hcell⟩ := hc 0 fx[0] (List.getElem?_eq_getElem hp)
  have c0 := hcell 0 (.string fx[0].f0) (by rw [k28_open hK]; rfl)
  rw [Nat.zero_mul] at c0
  refine Nat.le_of_not_lt fun hlt => ?_
  have hb : (ad.add 0).block = ad.block := by unfold Addr.add; split <;> rfl
  unfold World.cell? at c0
  rw [show (ad.add (0 + 0)) = ad.add 0 from rfl, hb] at c0
  have hq : (w'.heap.mapIdx (fun i o => if i < N then (.cells #[] 0 (0, 0) : Obj) else o))[ad.block]? = (w'.heap[ad.block]?).map (fun _ => .cells #[] 0 (0, 0)) := by
    rw [Array.getElem?_mapIdx]
    cases w'.heap[ad.block]? with
    | none => rfl
    | some o => simp [hlt]
  dsimp only at c0
  rw [hq] at c0
  cases hz : w'.heap[ad.block]? with
  | none => rw [hz] at c0; simp at c0
  | some o => rw [hz] at c0; simp at c0
set_option maxHeartbeats 4000000 in
set_option maxRecDepth 100000 in
theorem st8_9d (n co li sz : Int) (tx : ByteArray) (A0 A1 : Option Addr) (n0 k0 k1 : Nat) (fs fx : List Fld) (c l0 l1 l2 : Int) (w : World) (h3 : (c != 10) = false) (hfx : 0 < fx.length)
    (HL : ∀ W, Below w.heap.size w W → Calls Tryz.prog 55 #[stV 9 n co li sz tx (.slice A0 n0 k0) (.slice A1 fs.length k1), .int .u8 c, .agg #[.int .i64 l0, .int .i64 l1, .int .i64 l2]] W fun e w' => ∃ A2 k2, e = .returned (.tuple #[stV 6 n co li (sz + 1) ⟨#[]⟩ (.slice A0 n0 k0) (.slice A2 fx.length k2), .int .i64 0]) ∧ fx.length ≤ k2 ∧ (∀ W', (∀ k, W.heap.size ≤ k → W'.heap[k]? = w'.heap[k]?) → Kd.C k28 W' A2 fx.length fx) ∧ Below W.heap.size W w') :
    Calls Tryz.prog 43 #[stV 9 n co li sz tx (.slice A0 n0 k0) (.slice A1 fs.length k1), .int .u8 c, .agg #[.int .i64 l0, .int .i64 l1, .int .i64 l2]] w fun e w' => ∃ A2 k2, e = .returned (.tuple #[stV 6 n co li (sz + 1) ⟨#[]⟩ (.slice A0 n0 k0) (.slice A2 fx.length k2), .int .i64 0]) ∧ fx.length ≤ k2 ∧ Kd.C k28 w' A2 fx.length fx ∧ Below w.heap.size w w' ∧ ∀ ad, A2 = some ad → w.heap.size ≤ ad.block := by
  have HL := Aside0.mk HL
  go_enter Tryz.func43, Tryz.ntmps43
  go_wp2_with fail
  refine (HL.out _ (below3 (Below.refl _ _) _ _ _)).mono ?_
  rintro e w5 ⟨A2, k2, rfl, hle, hC, hb5⟩
  have hR5 : w5.heap[w.heap.size + 1 + 1]? = some (.cells #[Value.int .i64 0, Value.int .u64 0, Value.int .i64 0, Value.int .i64 0, Value.int .i64 0, Value.string ⟨#[]⟩, Value.slice none 0 0, Value.slice none 0 0] 82 (0, 0)) := (hb5.block _ (by simp only [World.size_alloc]; omega)).trans (by exact blk3 w _ _ _ _)
  have HR5 := Aside0.mk hR5
  have HA := Aside0.mk (fun W W' (h : Below w.heap.size w W) (h2 : Below W.heap.size W W') => h.trans (h2.mono h.size))
  have B5 := Aside0.mk (HA.out _ _ (by exact below3 (Below.refl _ _) _ _ _) hb5)
  have hC2 : ∀ W', (∀ k, w.heap.size + 1 + 1 + 1 ≤ k → W'.heap[k]? = w5.heap[k]?) → Kd.C k28 W' A2 fx.length fx := fun W' h => hC W' (fun k hk => h k (by simp only [World.size_alloc] at hk; omega))
  have HC2 := Aside0.mk hC2
  have HLE := Aside0.mk hle
  have HFR := Aside0.mk (fresh_row hC hfx)
  have u0 : w5.cell? ⟨w.heap.size + 1 + 1, 0, none⟩ = some (Value.int .i64 0) := (blk_cell hR5 0).trans rfl
  have g0 := blk_frozen hR5 0
  have u1 : w5.cell? ⟨w.heap.size + 1 + 1, 1, none⟩ = some (Value.int .u64 0) := (blk_cell hR5 1).trans rfl
  have g1 := blk_frozen hR5 1
  have u2 : w5.cell? ⟨w.heap.size + 1 + 1, 2, none⟩ = some (Value.int .i64 0) := (blk_cell hR5 2).trans rfl
  have g2 := blk_frozen hR5 2
  have u3 : w5.cell? ⟨w.heap.size + 1 + 1, 3, none⟩ = some (Value.int .i64 0) := (blk_cell hR5 3).trans rfl
  have g3 := blk_frozen hR5 3
  have u4 : w5.cell? ⟨w.heap.size + 1 + 1, 4, none⟩ = some (Value.int .i64 0) := (blk_cell hR5 4).trans rfl
  have g4 := blk_frozen hR5 4
  have u5 : w5.cell? ⟨w.heap.size + 1 + 1, 5, none⟩ = some (Value.string ⟨#[]⟩) := (blk_cell hR5 5).trans rfl
  have g5 := blk_frozen hR5 5
  have u6 : w5.cell? ⟨w.heap.size + 1 + 1, 6, none⟩ = some (Value.slice none 0 0) := (blk_cell hR5 6).trans rfl
  have g6 := blk_frozen hR5 6
  have u7 : w5.cell? ⟨w.heap.size + 1 + 1, 7, none⟩ = some (Value.slice none 0 0) := (blk_cell hR5 7).trans rfl
  have g7 := blk_frozen hR5 7
  clear hR5 hb5 hC hC2 hle
  go_wp2
  refine bodyPost_ret (results_ct rfl _ _ (w.heap.size + 1 + 1) 82 _ (0, 0) _ (by rfl) (by exact put8 HR5.out _ _ _ _ _ _ _ _) Tryz.underlying82 rfl (by kernel_rfl)) rfl ⟨A2, k2, rfl, HLE.out, HC2.out _ (fun k hk => ?_), ?_, fun ad e => Nat.le_trans (by simp only [World.size_alloc]; omega) (HFR.out ad e)⟩
  · have q : k ≠ w.heap.size + 1 + 1 := by omega
    rw [farH _ _ _ _ _ q, farH _ _ _ _ _ q, farH _ _ _ _ _ q, farH _ _ _ _ _ q, farH _ _ _ _ _ q, farH _ _ _ _ _ q, farH _ _ _ _ _ q, farH _ _ _ _ _ q]
  · have hbb := B5.out
    repeat (refine bset ?_ _ _ _ (by omega))
    exact hbb
set_option maxHeartbeats 2000000 in
set_option maxRecDepth 100000 in
theorem st8_3a ( co li sz : Int) (tx : ByteArray) (A0 A1 : Option Addr) (D : List Int) (n1 k0 k1 : Nat) (c l0 l1 l2 : Int) (w : World) (hr : Kd.C (Kd.int .u8) w A0 D.length D) (hk : D.length ≤ k0) (hD : D.length ≤ 1000000)  :
    Calls Tryz.prog 43 #[stV 3 1 co li sz tx (.slice A0 D.length k0) (.slice A1 n1 k1), .int .u8 c, .agg #[.int .i64 l0, .int .i64 l1, .int .i64 l2]] w fun e w' => ∃ A2 k2, e = .returned (.tuple #[stV 4 0 co li sz tx (.slice A2 (D ++ [c]).length k2) (.slice A1 n1 k1), .int .i64 0]) ∧ (D ++ [c]).length ≤ k2 ∧ Kd.C (Kd.int .u8) w' A2 (D ++ [c]).length (D ++ [c]) ∧ Below w.heap.size w w' := by
  obtain ⟨W3, hW3⟩ : ∃ W3, (((w.alloc (.cells #[Value.int .i64 3, Value.int .u64 1, Value.int .i64 co, Value.int .i64 li, Value.int .i64 sz, Value.string tx, Value.slice A0 D.length k0, Value.slice A1 n1 k1] 82)).alloc (.cells #[.int .i64 l0, .int .i64 l1, .int .i64 l2] 46)).alloc (.cells #[Value.int .i64 0, Value.int .u64 0, Value.int .i64 0, Value.int .i64 0, Value.int .i64 0, Value.string ⟨#[]⟩, Value.slice none 0 0, Value.slice none 0 0] 82)) = W3 := ⟨_, rfl⟩
  have B3 := Aside0.mk (show Below w.heap.size w W3 by rw [← hW3]; exact below3 (Below.refl _ _) _ _ _)
  have hS3 : W3.heap[w.heap.size]? = some (.cells #[Value.int .i64 3, Value.int .u64 1, Value.int .i64 co, Value.int .i64 li, Value.int .i64 sz, Value.string tx, Value.slice A0 D.length k0, Value.slice A1 n1 k1] 82 (0, 0)) := by rw [← hW3]; exact alloc_keep _ (alloc_keep _ (World.alloc_heap_new w _))
  have hR3 : W3.heap[w.heap.size + 1 + 1]? = some (.cells #[Value.int .i64 0, Value.int .u64 0, Value.int .i64 0, Value.int .i64 0, Value.int .i64 0, Value.string ⟨#[]⟩, Value.slice none 0 0, Value.slice none 0 0] 82 (0, 0)) := by rw [← hW3]; exact blk3 w _ _ _ _
  have HS := Aside0.mk (fun W (h : Below W3.heap.size W3 W) => (h.block _ (blk_lt hS3)).trans hS3)
  have HRR := Aside0.mk (fun W (h : Below W3.heap.size W3 W) => (h.block _ (blk_lt hR3)).trans hR3)
  have HDC := Aside0.mk (Kd.C_below hr B3.out)
  have hlt3 := Aside0.mk (blk_lt hR3)
  have HW3 := Aside0.mk hW3
  clear hr hS3 hR3 hW3
  go_enter Tryz.func43, Tryz.ntmps43
  go_wp2_with (first
    | ((with_reducible refine gate_builtin (b := .append) (xs := #[.tmp 129, .tmp 131]) rfl ?_); at_builtin; rw [HW3.out]; refine Kd.R_append_rows (Kd.int .u8) (w0 := W3) W3.heap.size rfl (.tmp 129) (.tmp 131) 25 5 (.int .u8 0) 1 rfl Tryz.underlying25 info5 rfl (by decide) (by omega) (.slice none 0 0) ([] : List Int) D _ _ _ (fun _ => True) (fun _ => False) rfl rfl ?aO ?aR (fun _ _ h => h) (fun _ h => h.elim) (fun _ _ => trivial) ?aB ?aS ?aL ?_; (case aO => exact Kd.R_nil _ _ _ _ _); (case aR => exact HDC.out); (case aB => exact Below.refl _ _); (case aS => exact Nat.le_refl _); (case aL => simp only [List.length_nil]; omega); intro v5 w5 ho5 hb5 hg5 hat5; have HO5 := Aside0.mk ho5; have HB5 := Aside0.mk hb5; clear ho5 hb5 hg5 hat5)
    | ((with_reducible refine gate_builtin (b := .append) (xs := #[.tmp 133, .tmp 135]) rfl ?_); at_builtin; refine Kd.R_append (Kd.int .u8) (w0 := W3) W3.heap.size rfl (.tmp 133) (.tmp 135) 25 5 (.int .u8 0) 1 rfl Tryz.underlying25 info5 rfl (by decide) (by omega) v5 ([] ++ D) c [.int .u8 c] (fun _ => True) (fun _ => False) rfl rfl ?aP (fun _ hk => hk.elim) (fun _ _ => trivial) ?aO ?aB ?aS ?aL ?_; (case aP => rfl); (case aO => exact HO5.out); (case aB => exact HB5.out); (case aS => exact HB5.out.size); (case aL => simp only [List.nil_append]; omega); intro v6 w6 ho6 hb6 hg6 hat6; rw [List.nil_append] at ho6; have HO6 := Aside0.mk ho6; have HB6 := Aside0.mk hb6; obtain ⟨A6, c6, e6⟩ := Kd.R_slice ho6; subst e6; have hS6 := HS.out w6 hb6; have t0 : w6.cell? ⟨w.heap.size, 0, none⟩ = some (Value.int .i64 3) := (blk_cell hS6 0).trans rfl; have t1 : w6.cell? ⟨w.heap.size, 1, none⟩ = some (Value.int .u64 1) := (blk_cell hS6 1).trans rfl; have t2 : w6.cell? ⟨w.heap.size, 2, none⟩ = some (Value.int .i64 co) := (blk_cell hS6 2).trans rfl; have t3 : w6.cell? ⟨w.heap.size, 3, none⟩ = some (Value.int .i64 li) := (blk_cell hS6 3).trans rfl; have t4 : w6.cell? ⟨w.heap.size, 4, none⟩ = some (Value.int .i64 sz) := (blk_cell hS6 4).trans rfl; have t5 : w6.cell? ⟨w.heap.size, 5, none⟩ = some (Value.string tx) := (blk_cell hS6 5).trans rfl; have t6 : w6.cell? ⟨w.heap.size, 6, none⟩ = some (Value.slice A0 D.length k0) := (blk_cell hS6 6).trans rfl; have t7 : w6.cell? ⟨w.heap.size, 7, none⟩ = some (Value.slice A1 n1 k1) := (blk_cell hS6 7).trans rfl; have f0 := blk_frozen hS6 0; have f1 := blk_frozen hS6 1; have f6 := blk_frozen hS6 6; have hR6 := HRR.out w6 hb6; have u0 : w6.cell? ⟨w.heap.size + 1 + 1, 0, none⟩ = some (Value.int .i64 0) := (blk_cell hR6 0).trans rfl; have u1 : w6.cell? ⟨w.heap.size + 1 + 1, 1, none⟩ = some (Value.int .u64 0) := (blk_cell hR6 1).trans rfl; have u2 : w6.cell? ⟨w.heap.size + 1 + 1, 2, none⟩ = some (Value.int .i64 0) := (blk_cell hR6 2).trans rfl; have u3 : w6.cell? ⟨w.heap.size + 1 + 1, 3, none⟩ = some (Value.int .i64 0) := (blk_cell hR6 3).trans rfl; have u4 : w6.cell? ⟨w.heap.size + 1 + 1, 4, none⟩ = some (Value.int .i64 0) := (blk_cell hR6 4).trans rfl; have u5 : w6.cell? ⟨w.heap.size + 1 + 1, 5, none⟩ = some (Value.string ⟨#[]⟩) := (blk_cell hR6 5).trans rfl; have u6 : w6.cell? ⟨w.heap.size + 1 + 1, 6, none⟩ = some (Value.slice none 0 0) := (blk_cell hR6 6).trans rfl; have u7 : w6.cell? ⟨w.heap.size + 1 + 1, 7, none⟩ = some (Value.slice none 0 0) := (blk_cell hR6 7).trans rfl; have g0 := blk_frozen hR6 0; have g1 := blk_frozen hR6 1; have g2 := blk_frozen hR6 2; have g3 := blk_frozen hR6 3; have g4 := blk_frozen hR6 4; have g5 := blk_frozen hR6 5; have g6 := blk_frozen hR6 6; have g7 := blk_frozen hR6 7; have HR6 := Aside0.mk hR6; clear ho6 hb6 hg6 hat6 hS6 hR6 HO5))
  have key : ∀ W, (∀ k, W3.heap.size ≤ k → W.heap[k]? = w6.heap[k]?) → (D ++ [c]).length ≤ c6 ∧ Kd.C (Kd.int .u8) W A6 (D ++ [c]).length (D ++ [c]) := fun W hW => by
    obtain ⟨_, _, q, hle, hC⟩ := Kd.R_reads (Kd.R_move (Kd.R_bound HO6.out) (fun k hk => hW k hk.2.1))
    cases q
    exact ⟨hle, hC⟩
  have hkk : ∀ k, W3.heap.size ≤ k → k ≠ w.heap.size ∧ k ≠ w.heap.size + 1 + 1 := fun k hk => by have := hlt3.out; omega
  have hRS : w.heap.size + 1 + 1 ≠ w.heap.size := by omega
  refine bodyPost_ret (results_ct rfl _ _ (w.heap.size + 1 + 1) 82 _ (0, 0) _ (by rfl) (by exact put8 (by rw [farH _ _ _ _ _ hRS, farH _ _ _ _ _ hRS, farH _ _ _ _ _ hRS]; exact HR6.out) _ _ _ _ _ _ _ _) Tryz.underlying82 rfl (by kernel_rfl)) rfl ⟨A6, c6, by rw [List.length_append]; rfl, (key w6 (fun _ _ => rfl)).1, (key _ (fun k hk => ?_)).2, ?_⟩
  · obtain ⟨q1, q2⟩ := hkk k hk
    rw [farH _ _ _ _ _ q2, farH _ _ _ _ _ q2, farH _ _ _ _ _ q2, farH _ _ _ _ _ q2, farH _ _ _ _ _ q2, farH _ _ _ _ _ q2, farH _ _ _ _ _ q2, farH _ _ _ _ _ q2]
    rw [farH _ _ _ _ _ q1, farH _ _ _ _ _ q1, farH _ _ _ _ _ q1]
  · have hbb := B3.out.trans (HB6.out.mono B3.out.size)
    repeat (refine bset ?_ _ _ _ (by omega))
    exact hbb
set_option maxHeartbeats 2000000 in
set_option maxRecDepth 100000 in
theorem st8_3b (n co li sz : Int) (tx : ByteArray) (A0 A1 : Option Addr) (D : List Int) (n1 k0 k1 : Nat) (c l0 l1 l2 : Int) (w : World) (hr : Kd.C (Kd.int .u8) w A0 D.length D) (hk : D.length ≤ k0) (hD : D.length ≤ 1000000) (h0 : (n - 1 == 0) = false) (hwn : IntKind.u64.wrap (n - 1) = n - 1) :
    Calls Tryz.prog 43 #[stV 3 n co li sz tx (.slice A0 D.length k0) (.slice A1 n1 k1), .int .u8 c, .agg #[.int .i64 l0, .int .i64 l1, .int .i64 l2]] w fun e w' => ∃ A2 k2, e = .returned (.tuple #[stV 3 (n - 1) co li sz tx (.slice A2 (D ++ [c]).length k2) (.slice A1 n1 k1), .int .i64 0]) ∧ (D ++ [c]).length ≤ k2 ∧ Kd.C (Kd.int .u8) w' A2 (D ++ [c]).length (D ++ [c]) ∧ Below w.heap.size w w' := by
  obtain ⟨W3, hW3⟩ : ∃ W3, (((w.alloc (.cells #[Value.int .i64 3, Value.int .u64 n, Value.int .i64 co, Value.int .i64 li, Value.int .i64 sz, Value.string tx, Value.slice A0 D.length k0, Value.slice A1 n1 k1] 82)).alloc (.cells #[.int .i64 l0, .int .i64 l1, .int .i64 l2] 46)).alloc (.cells #[Value.int .i64 0, Value.int .u64 0, Value.int .i64 0, Value.int .i64 0, Value.int .i64 0, Value.string ⟨#[]⟩, Value.slice none 0 0, Value.slice none 0 0] 82)) = W3 := ⟨_, rfl⟩
  have B3 := Aside0.mk (show Below w.heap.size w W3 by rw [← hW3]; exact below3 (Below.refl _ _) _ _ _)
  have hS3 : W3.heap[w.heap.size]? = some (.cells #[Value.int .i64 3, Value.int .u64 n, Value.int .i64 co, Value.int .i64 li, Value.int .i64 sz, Value.string tx, Value.slice A0 D.length k0, Value.slice A1 n1 k1] 82 (0, 0)) := by rw [← hW3]; exact alloc_keep _ (alloc_keep _ (World.alloc_heap_new w _))
  have hR3 : W3.heap[w.heap.size + 1 + 1]? = some (.cells #[Value.int .i64 0, Value.int .u64 0, Value.int .i64 0, Value.int .i64 0, Value.int .i64 0, Value.string ⟨#[]⟩, Value.slice none 0 0, Value.slice none 0 0] 82 (0, 0)) := by rw [← hW3]; exact blk3 w _ _ _ _
  have HS := Aside0.mk (fun W (h : Below W3.heap.size W3 W) => (h.block _ (blk_lt hS3)).trans hS3)
  have HRR := Aside0.mk (fun W (h : Below W3.heap.size W3 W) => (h.block _ (blk_lt hR3)).trans hR3)
  have HDC := Aside0.mk (Kd.C_below hr B3.out)
  have hlt3 := Aside0.mk (blk_lt hR3)
  have HW3 := Aside0.mk hW3
  clear hr hS3 hR3 hW3
  go_enter Tryz.func43, Tryz.ntmps43
  go_wp2_with (first
    | ((with_reducible refine gate_builtin (b := .append) (xs := #[.tmp 129, .tmp 131]) rfl ?_); at_builtin; rw [HW3.out]; refine Kd.R_append_rows (Kd.int .u8) (w0 := W3) W3.heap.size rfl (.tmp 129) (.tmp 131) 25 5 (.int .u8 0) 1 rfl Tryz.underlying25 info5 rfl (by decide) (by omega) (.slice none 0 0) ([] : List Int) D _ _ _ (fun _ => True) (fun _ => False) rfl rfl ?aO ?aR (fun _ _ h => h) (fun _ h => h.elim) (fun _ _ => trivial) ?aB ?aS ?aL ?_; (case aO => exact Kd.R_nil _ _ _ _ _); (case aR => exact HDC.out); (case aB => exact Below.refl _ _); (case aS => exact Nat.le_refl _); (case aL => simp only [List.length_nil]; omega); intro v5 w5 ho5 hb5 hg5 hat5; have HO5 := Aside0.mk ho5; have HB5 := Aside0.mk hb5; clear ho5 hb5 hg5 hat5)
    | ((with_reducible refine gate_builtin (b := .append) (xs := #[.tmp 133, .tmp 135]) rfl ?_); at_builtin; refine Kd.R_append (Kd.int .u8) (w0 := W3) W3.heap.size rfl (.tmp 133) (.tmp 135) 25 5 (.int .u8 0) 1 rfl Tryz.underlying25 info5 rfl (by decide) (by omega) v5 ([] ++ D) c [.int .u8 c] (fun _ => True) (fun _ => False) rfl rfl ?aP (fun _ hk => hk.elim) (fun _ _ => trivial) ?aO ?aB ?aS ?aL ?_; (case aP => rfl); (case aO => exact HO5.out); (case aB => exact HB5.out); (case aS => exact HB5.out.size); (case aL => simp only [List.nil_append]; omega); intro v6 w6 ho6 hb6 hg6 hat6; rw [List.nil_append] at ho6; have HO6 := Aside0.mk ho6; have HB6 := Aside0.mk hb6; obtain ⟨A6, c6, e6⟩ := Kd.R_slice ho6; subst e6; have hS6 := HS.out w6 hb6; have t0 : w6.cell? ⟨w.heap.size, 0, none⟩ = some (Value.int .i64 3) := (blk_cell hS6 0).trans rfl; have t1 : w6.cell? ⟨w.heap.size, 1, none⟩ = some (Value.int .u64 n) := (blk_cell hS6 1).trans rfl; have t2 : w6.cell? ⟨w.heap.size, 2, none⟩ = some (Value.int .i64 co) := (blk_cell hS6 2).trans rfl; have t3 : w6.cell? ⟨w.heap.size, 3, none⟩ = some (Value.int .i64 li) := (blk_cell hS6 3).trans rfl; have t4 : w6.cell? ⟨w.heap.size, 4, none⟩ = some (Value.int .i64 sz) := (blk_cell hS6 4).trans rfl; have t5 : w6.cell? ⟨w.heap.size, 5, none⟩ = some (Value.string tx) := (blk_cell hS6 5).trans rfl; have t6 : w6.cell? ⟨w.heap.size, 6, none⟩ = some (Value.slice A0 D.length k0) := (blk_cell hS6 6).trans rfl; have t7 : w6.cell? ⟨w.heap.size, 7, none⟩ = some (Value.slice A1 n1 k1) := (blk_cell hS6 7).trans rfl; have f0 := blk_frozen hS6 0; have f1 := blk_frozen hS6 1; have f6 := blk_frozen hS6 6; have hR6 := HRR.out w6 hb6; have u0 : w6.cell? ⟨w.heap.size + 1 + 1, 0, none⟩ = some (Value.int .i64 0) := (blk_cell hR6 0).trans rfl; have u1 : w6.cell? ⟨w.heap.size + 1 + 1, 1, none⟩ = some (Value.int .u64 0) := (blk_cell hR6 1).trans rfl; have u2 : w6.cell? ⟨w.heap.size + 1 + 1, 2, none⟩ = some (Value.int .i64 0) := (blk_cell hR6 2).trans rfl; have u3 : w6.cell? ⟨w.heap.size + 1 + 1, 3, none⟩ = some (Value.int .i64 0) := (blk_cell hR6 3).trans rfl; have u4 : w6.cell? ⟨w.heap.size + 1 + 1, 4, none⟩ = some (Value.int .i64 0) := (blk_cell hR6 4).trans rfl; have u5 : w6.cell? ⟨w.heap.size + 1 + 1, 5, none⟩ = some (Value.string ⟨#[]⟩) := (blk_cell hR6 5).trans rfl; have u6 : w6.cell? ⟨w.heap.size + 1 + 1, 6, none⟩ = some (Value.slice none 0 0) := (blk_cell hR6 6).trans rfl; have u7 : w6.cell? ⟨w.heap.size + 1 + 1, 7, none⟩ = some (Value.slice none 0 0) := (blk_cell hR6 7).trans rfl; have g0 := blk_frozen hR6 0; have g1 := blk_frozen hR6 1; have g2 := blk_frozen hR6 2; have g3 := blk_frozen hR6 3; have g4 := blk_frozen hR6 4; have g5 := blk_frozen hR6 5; have g6 := blk_frozen hR6 6; have g7 := blk_frozen hR6 7; have HR6 := Aside0.mk hR6; clear ho6 hb6 hg6 hat6 hS6 hR6 HO5))
  have key : ∀ W, (∀ k, W3.heap.size ≤ k → W.heap[k]? = w6.heap[k]?) → (D ++ [c]).length ≤ c6 ∧ Kd.C (Kd.int .u8) W A6 (D ++ [c]).length (D ++ [c]) := fun W hW => by
    obtain ⟨_, _, q, hle, hC⟩ := Kd.R_reads (Kd.R_move (Kd.R_bound HO6.out) (fun k hk => hW k hk.2.1))
    cases q
    exact ⟨hle, hC⟩
  have hkk : ∀ k, W3.heap.size ≤ k → k ≠ w.heap.size ∧ k ≠ w.heap.size + 1 + 1 := fun k hk => by have := hlt3.out; omega
  have hRS : w.heap.size + 1 + 1 ≠ w.heap.size := by omega
  refine bodyPost_ret (results_ct rfl _ _ (w.heap.size + 1 + 1) 82 _ (0, 0) _ (by rfl) (by exact put8 (by rw [farH _ _ _ _ _ hRS, farH _ _ _ _ _ hRS]; exact HR6.out) _ _ _ _ _ _ _ _) Tryz.underlying82 rfl (by kernel_rfl)) rfl ⟨A6, c6, by rw [List.length_append]; rfl, (key w6 (fun _ _ => rfl)).1, (key _ (fun k hk => ?_)).2, ?_⟩
  · obtain ⟨q1, q2⟩ := hkk k hk
    rw [farH _ _ _ _ _ q2, farH _ _ _ _ _ q2, farH _ _ _ _ _ q2, farH _ _ _ _ _ q2, farH _ _ _ _ _ q2, farH _ _ _ _ _ q2, farH _ _ _ _ _ q2, farH _ _ _ _ _ q2]
    rw [farH _ _ _ _ _ q1, farH _ _ _ _ _ q1]
  · have hbb := B3.out.trans (HB6.out.mono B3.out.size)
    repeat (refine bset ?_ _ _ _ (by omega))
    exact hbb
end Go.Proofs.YtmmbpbgcobmifaaGreatDoorH
end
section
namespace Go.Proofs.YtmmbpbgcobmifaaGreatDoor.Pr
end Go.Proofs.YtmmbpbgcobmifaaGreatDoor.Pr
namespace Go.Proofs.YtmmbpbgcobmifaaGreatDoorH
set_option linter.unusedVariables false
set_option linter.unusedSimpArgs false
open Go Go.RowKit Go.Proofs.YtmmbpbgcobmifaaGreatDoorW.PrintWords Go.Proofs.YtmmbpbgcobmifaaGreatDoorW.PrintLast Go.Proofs.YtmmbpbgcobmifaaGreatDoorW.PrintMore Go.Proofs.YtmmbpbgcobmifaaGreatDoor.Pr Go.Proofs.YtmmbpbgcobmifaaGreatDoorM
theorem digit8 {c : Int} (hc : 0 ≤ c ∧ c ≤ 255) : catchpitref01_Digit.f 40 c = some (digI c) := all256 (p := fun c => catchpitref01_Digit.f 40 c = some (digI c)) (by decide +kernel) hc
theorem digit8_le {c : Int} (hc : 0 ≤ c ∧ c ≤ 255) : digI c ≤ 15 := all256 (p := fun c => digI c ≤ 15) (by decide +kernel) hc
theorem byte8 {c : Int} (hc : 0 ≤ c ∧ c ≤ 255) : catchpitref02_Byte.f c = some (textB c) := all256 (p := fun c => catchpitref02_Byte.f c = some (textB c)) (by decide +kernel) hc
theorem token8 {c : Int} (hc : 0 ≤ c ∧ c ≤ 255) : catchpitref02_Token.f 40 (strOfNums [c]) = some (tokI c) := all256 (p := fun c => catchpitref02_Token.f 40 (strOfNums [c]) = some (tokI c)) (by decide +kernel) hc
structure Inv8 (X : MSt Fld) : Prop where
  pl : X.place ≤ 10
  n : X.n ≤ 4611686018427387903
  co : X.count ≤ 1000000
  li : X.lines ≤ 1000000
  sz : X.size ≤ 1000000
  tx : X.text.length ≤ 1000000
  dl : X.data.length ≤ 1000000
  fl : X.fields.length ≤ 1000000
  n3 : X.place = 3 → 0 < X.n
  t9 : X.place = 9 → 0 < X.text.length
abbrev stM (X : MSt Fld) (dv fv : Value) : Value := stV (X.place : Int) (X.n : Int) (X.count : Int) (X.lines : Int) (X.size : Int) (strOfNums X.text) dv fv
def Post8 (A1 : Option Addr) (E : MEnv Fld) (X : MSt Fld) (c : Int) (w : World) (e : Ending) (w' : World) : Prop := ∃ (Y : MSt Fld) (er : Int) (B0 B1 : Option Addr) (j0 j1 : Nat), e = .returned (.tuple #[stM Y (.slice B0 Y.data.length j0) (.slice B1 Y.fields.length j1), .int .i64 er]) ∧ Y.data.length ≤ j0 ∧ Y.fields.length ≤ j1 ∧ Kd.C (Kd.int .u8) w' B0 Y.data.length Y.data ∧ Kd.C k28 w' B1 Y.fields.length Y.fields ∧ Below w.heap.size w w' ∧ (mstep E X c = .ok Y ∧ er = 0 ∨ mstep E X c = .error er ∧ er ≠ 0) ∧ (B1 = A1 ∨ ∀ ad, B1 = some ad → w.heap.size ≤ ad.block)
theorem post_same {E : MEnv Fld} {X : MSt Fld} {c : Int} {F : Nat} {args : Array Value} {w : World} {A0 A1 : Option Addr} {k0 k1 : Nat} (Y : MSt Fld) (er : Int) (hd : Y.data = X.data) (hf : Y.fields = X.fields) (hr : Kd.C (Kd.int .u8) w A0 X.data.length X.data) (hk : X.data.length ≤ k0) (hr1 : Kd.C k28 w A1 X.fields.length X.fields) (hk1 : X.fields.length ≤ k1) (hm : mstep E X c = .ok Y ∧ er = 0 ∨ mstep E X c = .error er ∧ er ≠ 0)
    (h : Calls Tryz.prog F args w fun e w' => e = .returned (.tuple #[stM Y (.slice A0 X.data.length k0) (.slice A1 X.fields.length k1), .int .i64 er]) ∧ Below w.heap.size w w') : Calls Tryz.prog F args w (Post8 A1 E X c w) := by
  refine h.mono ?_
  rintro e w' ⟨rfl, hb⟩
  exact ⟨Y, er, A0, A1, k0, k1, by rw [hd, hf], by rw [hd]; exact hk, by rw [hf]; exact hk1, by rw [hd]; exact Kd.C_below hr hb, by rw [hf]; exact Kd.C_below hr1 hb, hb, hm, .inl rfl⟩
end Go.Proofs.YtmmbpbgcobmifaaGreatDoorH
end
section
namespace Go.Proofs.YtmmbpbgcobmifaaGreatDoor.Pr
end Go.Proofs.YtmmbpbgcobmifaaGreatDoor.Pr
namespace Go.Proofs.YtmmbpbgcobmifaaGreatDoorH
set_option linter.unusedVariables false
set_option linter.unusedSimpArgs false
open Go Go.RowKit Go.Proofs.YtmmbpbgcobmifaaGreatDoorW.PrintWords Go.Proofs.YtmmbpbgcobmifaaGreatDoorW.PrintLast Go.Proofs.YtmmbpbgcobmifaaGreatDoorW.PrintMore Go.Proofs.YtmmbpbgcobmifaaGreatDoor.Pr Go.Proofs.YtmmbpbgcobmifaaGreatDoorM
section
variable {e0 e1 e2 : Nat} {n co li sz : Nat} {tx D : List Int} {F : List Fld} {A0 A1 : Option Addr} {k0 k1 : Nat} {c : Int} {w : World}
theorem s8_4 (hr : Kd.C (Kd.int .u8) w A0 D.length D) (hk : D.length ≤ k0) (hr1 : Kd.C k28 w A1 F.length F) (hk1 : F.length ≤ k1) (hG : TabOk w) (hc : 0 ≤ c ∧ c ≤ 255) :
    Calls Tryz.prog 43 #[stM ⟨4, n, co, li, sz, tx, D, F⟩ (.slice A0 D.length k0) (.slice A1 F.length k1), .int .u8 c, .agg #[.int .i64 (e0 : Int), .int .i64 (e1 : Int), .int .i64 (e2 : Int)]] w (Post8 A1 (envM e0 e1 e2) ⟨4, n, co, li, sz, tx, D, F⟩ c w) := by
  by_cases h : c = 13
  · exact post_same ⟨5, n, co, li, sz, tx, D, F⟩ 0 rfl rfl hr hk hr1 hk1 (.inl ⟨(by exact (step4 rfl).trans (if_neg (by simpa using h))), rfl⟩) (st8_4b _ _ _ _ _ _ _ _ _ _ _ _ _ _ _ _ hG (by simp [h]))
  · exact post_same ⟨4, n, co, li, sz, tx, D, F⟩ 2 rfl rfl hr hk hr1 hk1 (.inr ⟨(by exact (step4 rfl).trans (if_pos h)), by decide⟩) (st8_4a _ _ _ _ _ _ _ _ _ _ _ _ _ _ _ _ hG (by simp [h]))
theorem s8_5 (hr : Kd.C (Kd.int .u8) w A0 D.length D) (hk : D.length ≤ k0) (hr1 : Kd.C k28 w A1 F.length F) (hk1 : F.length ≤ k1) (hG : TabOk w) (hc : 0 ≤ c ∧ c ≤ 255) :
    Calls Tryz.prog 43 #[stM ⟨5, n, co, li, sz, tx, D, F⟩ (.slice A0 D.length k0) (.slice A1 F.length k1), .int .u8 c, .agg #[.int .i64 (e0 : Int), .int .i64 (e1 : Int), .int .i64 (e2 : Int)]] w (Post8 A1 (envM e0 e1 e2) ⟨5, n, co, li, sz, tx, D, F⟩ c w) := by
  by_cases h : c = 10
  · exact post_same ⟨0, n, 0, li, sz, tx, D, F⟩ 0 rfl rfl hr hk hr1 hk1 (.inl ⟨(by exact (step5 rfl).trans (if_neg (by simpa using h))), rfl⟩) (st8_5b _ _ _ _ _ _ _ _ _ _ _ _ _ _ _ _ hG (by simp [h]))
  · exact post_same ⟨5, n, co, li, sz, tx, D, F⟩ 2 rfl rfl hr hk hr1 hk1 (.inr ⟨(by exact (step5 rfl).trans (if_pos h)), by decide⟩) (st8_5a _ _ _ _ _ _ _ _ _ _ _ _ _ _ _ _ hG (by simp [h]))
theorem s8_10 (hr : Kd.C (Kd.int .u8) w A0 D.length D) (hk : D.length ≤ k0) (hr1 : Kd.C k28 w A1 F.length F) (hk1 : F.length ≤ k1) (hG : TabOk w) (hc : 0 ≤ c ∧ c ≤ 255) :
    Calls Tryz.prog 43 #[stM ⟨10, n, co, li, sz, tx, D, F⟩ (.slice A0 D.length k0) (.slice A1 F.length k1), .int .u8 c, .agg #[.int .i64 (e0 : Int), .int .i64 (e1 : Int), .int .i64 (e2 : Int)]] w (Post8 A1 (envM e0 e1 e2) ⟨10, n, co, li, sz, tx, D, F⟩ c w) := by
  by_cases h : c = 10
  · exact post_same ⟨11, n, co, li, sz, tx, D, F⟩ 0 rfl rfl hr hk hr1 hk1 (.inl ⟨(by exact (step10 rfl).trans (if_neg (by simpa using h))), rfl⟩) (st8_10b _ _ _ _ _ _ _ _ _ _ _ _ _ _ _ _ hG (by simp [h]))
  · exact post_same ⟨10, n, co, li, sz, tx, D, F⟩ 2 rfl rfl hr hk hr1 hk1 (.inr ⟨(by exact (step10 rfl).trans (if_pos h)), by decide⟩) (st8_10a _ _ _ _ _ _ _ _ _ _ _ _ _ _ _ _ hG (by simp [h]))
theorem s8_2 (hr : Kd.C (Kd.int .u8) w A0 D.length D) (hk : D.length ≤ k0) (hr1 : Kd.C k28 w A1 F.length F) (hk1 : F.length ≤ k1) (hG : TabOk w) (hc : 0 ≤ c ∧ c ≤ 255) :
    Calls Tryz.prog 43 #[stM ⟨2, n, co, li, sz, tx, D, F⟩ (.slice A0 D.length k0) (.slice A1 F.length k1), .int .u8 c, .agg #[.int .i64 (e0 : Int), .int .i64 (e1 : Int), .int .i64 (e2 : Int)]] w (Post8 A1 (envM e0 e1 e2) ⟨2, n, co, li, sz, tx, D, F⟩ c w) := by
  by_cases h : c = 10
  · by_cases h0 : 0 < n
    · exact post_same ⟨3, n, co, li, sz, tx, D, F⟩ 0 rfl rfl hr hk hr1 hk1 (.inl ⟨(by exact (step2 rfl).trans ((if_neg (by simpa using h)).trans (if_pos h0))), rfl⟩) (st8_2b _ _ _ _ _ _ _ _ _ _ _ _ _ _ _ _ hG (by simp [h]) (show (0 : Int) < (n : Int) by omega))
    · obtain rfl : n = 0 := by omega
      exact post_same ⟨6, 0, co, li, sz, tx, D, F⟩ 0 rfl rfl hr hk hr1 hk1 (.inl ⟨(by exact (step2 rfl).trans ((if_neg (by simpa using h)).trans (if_neg h0))), rfl⟩) (st8_2c _ _ _ _ _ _ _ _ _ _ _ _ _ _ _ hG (by simp [h]))
  · exact post_same ⟨2, n, co, li, sz, tx, D, F⟩ 2 rfl rfl hr hk hr1 hk1 (.inr ⟨(by exact (step2 rfl).trans (if_pos h)), by decide⟩) (st8_2a _ _ _ _ _ _ _ _ _ _ _ _ _ _ _ _ hG (by simp [h]))
theorem s8_1 (hr : Kd.C (Kd.int .u8) w A0 D.length D) (hk : D.length ≤ k0) (hr1 : Kd.C k28 w A1 F.length F) (hk1 : F.length ≤ k1) (hG : TabOk w) (hc : 0 ≤ c ∧ c ≤ 255) (hco : co ≤ 1000000) :
    Calls Tryz.prog 43 #[stM ⟨1, n, co, li, sz, tx, D, F⟩ (.slice A0 D.length k0) (.slice A1 F.length k1), .int .u8 c, .agg #[.int .i64 (e0 : Int), .int .i64 (e1 : Int), .int .i64 (e2 : Int)]] w (Post8 A1 (envM e0 e1 e2) ⟨1, n, co, li, sz, tx, D, F⟩ c w) := by
  have hb := byte8 hc
  by_cases h : c = 13
  · exact post_same ⟨2, n, co, li, sz, tx, D, F⟩ 0 rfl rfl hr hk hr1 hk1 (.inl ⟨(by exact (step1 rfl).trans (if_pos h)), rfl⟩) (st8_1a _ _ _ _ _ _ _ _ _ _ _ _ _ _ _ _ hG (by simp [h]))
  · cases ht : textB c with
    | false =>
      rw [ht] at hb
      exact post_same ⟨1, n, co, li, sz, tx, D, F⟩ 2 rfl rfl hr hk hr1 hk1 (.inr ⟨(by exact (step1 rfl).trans ((if_neg h).trans (if_pos (show (envM e0 e1 e2).tx c = false from ht)))), by decide⟩) (st8_1b _ _ _ _ _ _ _ _ _ _ _ _ _ _ _ _ hG (by simp [h]) hb)
    | true =>
      rw [ht] at hb
      by_cases h2 : e0 ≤ co
      · exact post_same ⟨1, n, co, li, sz, tx, D, F⟩ 5 rfl rfl hr hk hr1 hk1 (.inr ⟨(by exact (step1 rfl).trans ((if_neg h).trans ((if_neg (show ¬ (envM e0 e1 e2).tx c = false from fun q => by rw [show (envM e0 e1 e2).tx c = textB c from rfl, ht] at q; cases q)).trans (if_pos h2)))), by decide⟩) (st8_1c _ _ _ _ _ _ _ _ _ _ _ _ _ _ _ _ hG (by simp [h]) hb (show (e0 : Int) ≤ (co : Int) by omega))
      · exact post_same ⟨1, n, co + 1, li, sz, tx, D, F⟩ 0 rfl rfl hr hk hr1 hk1 (.inl ⟨(by exact (step1 rfl).trans ((if_neg h).trans ((if_neg (show ¬ (envM e0 e1 e2).tx c = false from fun q => by rw [show (envM e0 e1 e2).tx c = textB c from rfl, ht] at q; cases q)).trans (if_neg h2)))), rfl⟩) (st8_1d _ _ _ _ _ _ _ _ _ _ _ _ _ _ _ _ hG (by simp [h]) hb (show ¬ (e0 : Int) ≤ (co : Int) by omega) (show IntKind.i64.wrap ((co : Int) + 1) = (co : Int) + 1 by unfold IntKind.wrap; simp [IntKind.bits, IntKind.signed]; omega))
theorem s8_0 (hr : Kd.C (Kd.int .u8) w A0 D.length D) (hk : D.length ≤ k0) (hr1 : Kd.C k28 w A1 F.length F) (hk1 : F.length ≤ k1) (hG : TabOk w) (hc : 0 ≤ c ∧ c ≤ 255) (hco : co ≤ 1000000) (hn : n ≤ 4611686018427387903) :
    Calls Tryz.prog 43 #[stM ⟨0, n, co, li, sz, tx, D, F⟩ (.slice A0 D.length k0) (.slice A1 F.length k1), .int .u8 c, .agg #[.int .i64 (e0 : Int), .int .i64 (e1 : Int), .int .i64 (e2 : Int)]] w (Post8 A1 (envM e0 e1 e2) ⟨0, n, co, li, sz, tx, D, F⟩ c w) := by
  have hd := digit8 hc
  have hle := digit8_le hc
  by_cases h0 : 0 ≤ digI c
  · obtain ⟨d, hdd⟩ := Int.eq_ofNat_of_zero_le h0
    have hwd : IntKind.u64.wrap (d : Int) = (d : Int) := by rw [IntKind.wrap_u64]; omega
    have hq1 : IntKind.u64.wrap (4611686018427387903 - (d : Int)) = 4611686018427387903 - (d : Int) := by rw [IntKind.wrap_u64]; omega
    have hq2 : IntKind.u64.wrap (Int.tdiv (4611686018427387903 - (d : Int)) 16) = (((4611686018427387903 - d) / 16 : Nat) : Int) := by
      rw [Int.tdiv_eq_ediv_of_nonneg (by omega), IntKind.wrap_u64]; omega
    by_cases h16 : co = 16
    · subst h16
      exact post_same ⟨0, n, 16, li, sz, tx, D, F⟩ 3 rfl rfl hr hk hr1 hk1 (.inr ⟨(by exact (step0 rfl).trans ((if_pos h0).trans (if_pos (.inl rfl)))), by decide⟩) (st8_0a _ _ _ _ _ _ _ _ _ _ _ _ _ _ _ hG 40 _ hd h0)
    · rw [hdd] at hd
      by_cases hq : (4611686018427387903 - d) / 16 < n
      · exact post_same ⟨0, n, co, li, sz, tx, D, F⟩ 3 rfl rfl hr hk hr1 hk1 (.inr ⟨(by have q := step0 (E := envM e0 e1 e2) (s := ⟨0, n, co, li, sz, tx, D, F⟩) (c := c) rfl; rw [show (envM e0 e1 e2).dg c = (d : Int) from hdd] at q; exact q.trans ((if_pos (by omega)).trans (if_pos (.inr (show (4611686018427387903 - ((d : Int)).toNat) / 16 < n from hq))))), by decide⟩) (st8_0b _ _ _ _ _ _ _ _ _ _ _ _ _ _ _ _ hG 40 _ hd (show (0 : Int) ≤ (d : Int) by omega) (show ((co : Int) == 16) = false by rw [beq_eq_false_iff_ne]; omega) _ hwd hq1 hq2 (show ((((4611686018427387903 - d) / 16 : Nat)) : Int) < (n : Int) by omega))
      · exact post_same ⟨0, 16 * n + d, co + 1, li, sz, tx, D, F⟩ 0 rfl rfl hr hk hr1 hk1 (.inl ⟨(by have q := step0 (E := envM e0 e1 e2) (s := ⟨0, n, co, li, sz, tx, D, F⟩) (c := c) rfl; rw [show (envM e0 e1 e2).dg c = (d : Int) from hdd] at q; exact q.trans ((if_pos (by omega)).trans (if_neg (fun hh => hh.elim (fun hh => h16 hh) (fun hh => hq hh))))), rfl⟩) (st8_0c _ _ _ _ _ _ _ _ _ _ _ _ _ _ _ _ hG 40 _ hd (show (0 : Int) ≤ (d : Int) by omega) (show ((co : Int) == 16) = false by rw [beq_eq_false_iff_ne]; omega) _ hwd hq1 hq2 (show ¬ ((((4611686018427387903 - d) / 16 : Nat)) : Int) < (n : Int) by omega) (show IntKind.u64.wrap (16 * (n : Int)) = 16 * (n : Int) by rw [IntKind.wrap_u64]; omega) (show IntKind.u64.wrap (16 * (n : Int) + (d : Int)) = 16 * (n : Int) + (d : Int) by rw [IntKind.wrap_u64]; omega) (show IntKind.i64.wrap ((co : Int) + 1) = (co : Int) + 1 by unfold IntKind.wrap; simp [IntKind.bits, IntKind.signed]; omega))
  · by_cases hc0 : co = 0
    · subst hc0
      exact post_same ⟨0, n, 0, li, sz, tx, D, F⟩ 2 rfl rfl hr hk hr1 hk1 (.inr ⟨(by exact (step0 rfl).trans ((if_neg h0).trans (if_pos (.inl rfl)))), by decide⟩) (st8_0d _ _ _ _ _ _ _ _ _ _ _ _ _ _ _ hG 40 _ hd h0)
    · by_cases h13 : c = 13
      · exact post_same ⟨2, n, co, li, sz, tx, D, F⟩ 0 rfl rfl hr hk hr1 hk1 (.inl ⟨(by exact (step0 rfl).trans ((if_neg h0).trans ((if_neg (fun hh => hh.elim (fun hh => hc0 hh) (fun hh => hh.2 h13))).trans (if_pos h13)))), rfl⟩) (st8_0f _ _ _ _ _ _ _ _ _ _ _ _ _ _ _ _ hG 40 _ hd h0 (show ((co : Int) == 0) = false by rw [beq_eq_false_iff_ne]; omega) (by rw [h13]; rfl) (by simp [h13]) (by simp [h13]))
      · by_cases h59 : c = 59
        · by_cases he : e0 < 1
          · exact post_same ⟨0, n, co, li, sz, tx, D, F⟩ 5 rfl rfl hr hk hr1 hk1 (.inr ⟨(by exact (step0 rfl).trans ((if_neg h0).trans ((if_neg (fun hh => hh.elim (fun hh => hc0 hh) (fun hh => hh.1 h59))).trans ((if_neg h13).trans (if_pos he))))), by decide⟩) (st8_0g _ _ _ _ _ _ _ _ _ _ _ _ _ _ _ _ hG 40 _ hd h0 (show ((co : Int) == 0) = false by rw [beq_eq_false_iff_ne]; omega) (by simp [h59]) (by simp [h13]) (show (e0 : Int) < 1 by omega))
          · exact post_same ⟨1, n, 1, li, sz, tx, D, F⟩ 0 rfl rfl hr hk hr1 hk1 (.inl ⟨(by exact (step0 rfl).trans ((if_neg h0).trans ((if_neg (fun hh => hh.elim (fun hh => hc0 hh) (fun hh => hh.1 h59))).trans ((if_neg h13).trans (if_neg he))))), rfl⟩) (st8_0h _ _ _ _ _ _ _ _ _ _ _ _ _ _ _ _ hG 40 _ hd h0 (show ((co : Int) == 0) = false by rw [beq_eq_false_iff_ne]; omega) (by simp [h59]) (by simp [h13]) (show ¬ (e0 : Int) < 1 by omega))
        · exact post_same ⟨0, n, co, li, sz, tx, D, F⟩ 2 rfl rfl hr hk hr1 hk1 (.inr ⟨(by exact (step0 rfl).trans ((if_neg h0).trans (if_pos (.inr ⟨h59, h13⟩)))), by decide⟩) (st8_0e _ _ _ _ _ _ _ _ _ _ _ _ _ _ _ _ hG 40 _ hd h0 (show ((co : Int) == 0) = false by rw [beq_eq_false_iff_ne]; omega) (by simp [h59]) (by simp [h13]))
end
end Go.Proofs.YtmmbpbgcobmifaaGreatDoorH
end
section
namespace Go.Proofs.YtmmbpbgcobmifaaGreatDoor.Pr
end Go.Proofs.YtmmbpbgcobmifaaGreatDoor.Pr
namespace Go.Proofs.YtmmbpbgcobmifaaGreatDoorH
set_option linter.unusedVariables false
set_option linter.unusedSimpArgs false
open Go Go.RowKit Go.Proofs.YtmmbpbgcobmifaaGreatDoorW.PrintWords Go.Proofs.YtmmbpbgcobmifaaGreatDoorW.PrintLast Go.Proofs.YtmmbpbgcobmifaaGreatDoorW.PrintMore Go.Proofs.YtmmbpbgcobmifaaGreatDoor.Pr Go.Proofs.YtmmbpbgcobmifaaGreatDoorM
section
variable {e0 e1 e2 : Nat} {n co li sz : Nat} {tx D : List Int} {F : List Fld} {A0 A1 : Option Addr} {k0 k1 : Nat} {c : Int} {w : World}
theorem wrap_nat {a : Nat} (h : a ≤ 1000000) : IntKind.i64.wrap ((a : Int) + 1) = (a : Int) + 1 := by
  unfold IntKind.wrap
  simp [IntKind.bits, IntKind.signed]
  omega
theorem fin8 {Fn : Nat} {args : Array Value} (p li1 p2 li2 : Nat) (hX : mstep (envM e0 e1 e2) ⟨p, n, co, li1, sz, tx, D, F⟩ c = mline (envM e0 e1 e2) ⟨p2, n, co, li2, sz, tx, D, F⟩ c) (h10 : c ≠ 10) (htx : tx.length ≤ 1000000) (hsz : sz ≤ 1000000)
    (hr : Kd.C (Kd.int .u8) w A0 D.length D) (hk : D.length ≤ k0) (hr1 : Kd.C k28 w A1 F.length F) (hk1 : F.length ≤ k1)
    (H : ∀ (p3 sz3 er : Int) (tx3 : ByteArray), (∀ W, Below w.heap.size w W → Calls Tryz.prog 55 #[stV (p2 : Int) (n : Int) (co : Int) (li2 : Int) (sz : Int) (strOfNums tx) (.slice A0 D.length k0) (.slice A1 F.length k1), .int .u8 c, .agg #[.int .i64 (e0 : Int), .int .i64 (e1 : Int), .int .i64 (e2 : Int)]] W fun e w' => e = .returned (.tuple #[stV p3 (n : Int) (co : Int) (li2 : Int) sz3 tx3 (.slice A0 D.length k0) (.slice A1 F.length k1), .int .i64 er]) ∧ Below W.heap.size W w') →
      Calls Tryz.prog Fn args w fun e w' => e = .returned (.tuple #[stV p3 (n : Int) (co : Int) (li2 : Int) sz3 tx3 (.slice A0 D.length k0) (.slice A1 F.length k1), .int .i64 er]) ∧ Below w.heap.size w w') :
    Calls Tryz.prog Fn args w (Post8 A1 (envM e0 e1 e2) ⟨p, n, co, li1, sz, tx, D, F⟩ c w) := by
  by_cases hz : e2 ≤ sz
  · exact post_same ⟨p2, n, co, li2, sz, tx, D, F⟩ 5 rfl rfl hr hk hr1 hk1 (.inr ⟨hX.trans (line_full hz), by decide⟩) (H _ _ _ _ (fun W hW => ln8_a _ _ _ _ _ _ _ _ _ _ _ _ _ _ _ _ W (show (e2 : Int) ≤ (sz : Int) by omega)))
  · have ht := strOfNums_append tx [c]
    have hs : (strOfNums tx).size ≤ 1000000 := by rw [Go.strOfNums_size]; exact htx
    refine post_same ⟨p2, n, co, li2, sz + 1, tx ++ [c], D, F⟩ 0 rfl rfl hr hk hr1 hk1 (.inl ⟨hX.trans (line_on (by show sz < e2; omega) (fun q => h10 q.1)), rfl⟩) (H _ _ _ _ (fun W hW => ?_))
    show Calls _ _ _ _ fun e w' => e = .returned (.tuple #[stV (p2 : Int) (n : Int) (co : Int) (li2 : Int) ((sz : Int) + 1) (strOfNums (tx ++ [c])) (.slice A0 D.length k0) (.slice A1 F.length k1), .int .i64 0]) ∧ _
    rw [ht]
    exact ln8_b _ _ _ _ _ _ _ _ _ _ _ _ _ _ _ _ W (show ¬ (e2 : Int) ≤ (sz : Int) by omega) (by simp [h10]) (wrap_nat hsz) hs
theorem s8_7 (hr : Kd.C (Kd.int .u8) w A0 D.length D) (hk : D.length ≤ k0) (hr1 : Kd.C k28 w A1 F.length F) (hk1 : F.length ≤ k1) (hG : TabOk w) (hc : 0 ≤ c ∧ c ≤ 255) (htx : tx.length ≤ 1000000) (hsz : sz ≤ 1000000) :
    Calls Tryz.prog 43 #[stM ⟨7, n, co, li, sz, tx, D, F⟩ (.slice A0 D.length k0) (.slice A1 F.length k1), .int .u8 c, .agg #[.int .i64 (e0 : Int), .int .i64 (e1 : Int), .int .i64 (e2 : Int)]] w (Post8 A1 (envM e0 e1 e2) ⟨7, n, co, li, sz, tx, D, F⟩ c w) := by
  have hb := token8 hc
  by_cases h : c = 58
  · have h10 : c ≠ 10 := by omega
    exact fin8 7 li 8 li ((step7 rfl).trans (if_pos h)) h10 htx hsz hr hk hr1 hk1 (fun p3 sz3 er tx3 HL => st8_7a _ _ _ _ _ _ _ _ _ _ _ _ _ _ _ _ _ _ _ _ hG (by simp [h]) HL)
  · cases ht : tokI c with
    | false =>
      rw [ht] at hb
      exact post_same ⟨7, n, co, li, sz, tx, D, F⟩ 2 rfl rfl hr hk hr1 hk1 (.inr ⟨(step7 rfl).trans ((if_neg h).trans (if_pos (show (envM e0 e1 e2).tk c = false from ht))), by decide⟩) (st8_7b _ _ _ _ _ _ _ _ _ _ _ _ _ _ _ _ hG (by simp [h]) 40 hb)
    | true =>
      rw [ht] at hb
      have h10 : c ≠ 10 := by rintro rfl; exact absurd ht (by decide +kernel)
      exact fin8 7 li 7 li ((step7 rfl).trans ((if_neg h).trans (if_neg (show ¬ (envM e0 e1 e2).tk c = false from fun q => by rw [show (envM e0 e1 e2).tk c = tokI c from rfl, ht] at q; cases q)))) h10 htx hsz hr hk hr1 hk1 (fun p3 sz3 er tx3 HL => st8_7c _ _ _ _ _ _ _ _ _ _ _ _ _ _ _ _ _ _ _ _ hG (by simp [h]) 40 hb HL)
theorem s8_8 (hr : Kd.C (Kd.int .u8) w A0 D.length D) (hk : D.length ≤ k0) (hr1 : Kd.C k28 w A1 F.length F) (hk1 : F.length ≤ k1) (hG : TabOk w) (hc : 0 ≤ c ∧ c ≤ 255) (htx : tx.length ≤ 1000000) (hsz : sz ≤ 1000000) :
    Calls Tryz.prog 43 #[stM ⟨8, n, co, li, sz, tx, D, F⟩ (.slice A0 D.length k0) (.slice A1 F.length k1), .int .u8 c, .agg #[.int .i64 (e0 : Int), .int .i64 (e1 : Int), .int .i64 (e2 : Int)]] w (Post8 A1 (envM e0 e1 e2) ⟨8, n, co, li, sz, tx, D, F⟩ c w) := by
  have hb := byte8 hc
  by_cases h : c = 13
  · have h10 : c ≠ 10 := by omega
    exact fin8 8 li 9 li ((step8 rfl).trans (if_pos h)) h10 htx hsz hr hk hr1 hk1 (fun p3 sz3 er tx3 HL => st8_8a _ _ _ _ _ _ _ _ _ _ _ _ _ _ _ _ _ _ _ _ hG (by simp [h]) HL)
  · cases ht : textB c with
    | false =>
      rw [ht] at hb
      exact post_same ⟨8, n, co, li, sz, tx, D, F⟩ 2 rfl rfl hr hk hr1 hk1 (.inr ⟨(step8 rfl).trans ((if_neg h).trans (if_pos (show (envM e0 e1 e2).tx c = false from ht))), by decide⟩) (st8_8b _ _ _ _ _ _ _ _ _ _ _ _ _ _ _ _ hG (by simp [h]) hb)
    | true =>
      rw [ht] at hb
      have h10 : c ≠ 10 := by rintro rfl; exact absurd ht (by decide +kernel)
      exact fin8 8 li 8 li ((step8 rfl).trans ((if_neg h).trans (if_neg (show ¬ (envM e0 e1 e2).tx c = false from fun q => by rw [show (envM e0 e1 e2).tx c = textB c from rfl, ht] at q; cases q)))) h10 htx hsz hr hk hr1 hk1 (fun p3 sz3 er tx3 HL => st8_8c _ _ _ _ _ _ _ _ _ _ _ _ _ _ _ _ _ _ _ _ hG (by simp [h]) hb HL)
theorem s8_6 (hr : Kd.C (Kd.int .u8) w A0 D.length D) (hk : D.length ≤ k0) (hr1 : Kd.C k28 w A1 F.length F) (hk1 : F.length ≤ k1) (hG : TabOk w) (hc : 0 ≤ c ∧ c ≤ 255) (htx : tx.length ≤ 1000000) (hsz : sz ≤ 1000000) (hli : li ≤ 1000000) :
    Calls Tryz.prog 43 #[stM ⟨6, n, co, li, sz, tx, D, F⟩ (.slice A0 D.length k0) (.slice A1 F.length k1), .int .u8 c, .agg #[.int .i64 (e0 : Int), .int .i64 (e1 : Int), .int .i64 (e2 : Int)]] w (Post8 A1 (envM e0 e1 e2) ⟨6, n, co, li, sz, tx, D, F⟩ c w) := by
  have hb := token8 hc
  by_cases h : c = 13
  · exact post_same ⟨10, n, co, li, sz, tx, D, F⟩ 0 rfl rfl hr hk hr1 hk1 (.inl ⟨(step6 rfl).trans (if_pos h), rfl⟩) (st8_6a _ _ _ _ _ _ _ _ _ _ _ _ _ _ _ _ hG (by simp [h]))
  · cases ht : tokI c with
    | false =>
      rw [ht] at hb
      exact post_same ⟨6, n, co, li, sz, tx, D, F⟩ 2 rfl rfl hr hk hr1 hk1 (.inr ⟨(step6 rfl).trans ((if_neg h).trans (if_pos (show (envM e0 e1 e2).tk c = false from ht))), by decide⟩) (st8_6b _ _ _ _ _ _ _ _ _ _ _ _ _ _ _ _ hG (by simp [h]) 40 hb)
    | true =>
      rw [ht] at hb
      by_cases h2 : e1 ≤ li
      · exact post_same ⟨6, n, co, li, sz, tx, D, F⟩ 5 rfl rfl hr hk hr1 hk1 (.inr ⟨(step6 rfl).trans ((if_neg h).trans ((if_neg (show ¬ (envM e0 e1 e2).tk c = false from fun q => by rw [show (envM e0 e1 e2).tk c = tokI c from rfl, ht] at q; cases q)).trans (if_pos h2))), by decide⟩) (st8_6c _ _ _ _ _ _ _ _ _ _ _ _ _ _ _ _ hG (by simp [h]) (show (e1 : Int) ≤ (li : Int) by omega) 40 hb)
      · have h10 : c ≠ 10 := by rintro rfl; exact absurd ht (by decide +kernel)
        exact fin8 6 li 7 (li + 1) ((step6 rfl).trans ((if_neg h).trans ((if_neg (show ¬ (envM e0 e1 e2).tk c = false from fun q => by rw [show (envM e0 e1 e2).tk c = tokI c from rfl, ht] at q; cases q)).trans (if_neg h2)))) h10 htx hsz hr hk hr1 hk1 (fun p3 sz3 er tx3 HL => st8_6d _ _ _ _ _ _ _ _ _ _ _ _ _ _ _ _ _ _ _ _ hG (by simp [h]) (show ¬ (e1 : Int) ≤ (li : Int) by omega) (wrap_nat hli) 40 hb HL)
end
end Go.Proofs.YtmmbpbgcobmifaaGreatDoorH
end
section
namespace Go.Proofs.YtmmbpbgcobmifaaGreatDoor.Pr
end Go.Proofs.YtmmbpbgcobmifaaGreatDoor.Pr
namespace Go.Proofs.YtmmbpbgcobmifaaGreatDoorH
set_option linter.unusedVariables false
set_option linter.unusedSimpArgs false
open Go Go.RowKit Go.Proofs.YtmmbpbgcobmifaaGreatDoorW.PrintWords Go.Proofs.YtmmbpbgcobmifaaGreatDoorW.PrintLast Go.Proofs.YtmmbpbgcobmifaaGreatDoorW.PrintMore Go.Proofs.YtmmbpbgcobmifaaGreatDoor.Pr Go.Proofs.YtmmbpbgcobmifaaGreatDoorM
section
variable {e0 e1 e2 : Nat} {n co li sz : Nat} {tx D : List Int} {F : List Fld} {A0 A1 : Option Addr} {k0 k1 : Nat} {c : Int} {w : World}
theorem s8_3 (hr : Kd.C (Kd.int .u8) w A0 D.length D) (hk : D.length ≤ k0) (hr1 : Kd.C k28 w A1 F.length F) (hk1 : F.length ≤ k1) (hD : D.length ≤ 1000000) (h0 : 0 < n) (hn : n ≤ 4611686018427387903) :
    Calls Tryz.prog 43 #[stM ⟨3, n, co, li, sz, tx, D, F⟩ (.slice A0 D.length k0) (.slice A1 F.length k1), .int .u8 c, .agg #[.int .i64 (e0 : Int), .int .i64 (e1 : Int), .int .i64 (e2 : Int)]] w (Post8 A1 (envM e0 e1 e2) ⟨3, n, co, li, sz, tx, D, F⟩ c w) := by
  obtain ⟨m, rfl⟩ : ∃ m, n = m + 1 := ⟨n - 1, by omega⟩
  by_cases hm : m = 0
  · subst hm
    refine (st8_3a (co : Int) (li : Int) (sz : Int) (strOfNums tx) A0 A1 D F.length k0 k1 c (e0 : Int) (e1 : Int) (e2 : Int) w hr hk hD).mono ?_
    rintro e w' ⟨A2, k2, rfl, hle, hC, hb⟩
    exact ⟨⟨4, 0, co, li, sz, tx, D ++ [c], F⟩, 0, A2, A1, k2, k1, rfl, hle, hk1, hC, Kd.C_below hr1 hb, hb, .inl ⟨(step3 rfl).trans (if_pos rfl), rfl⟩, .inl rfl⟩
  · have e1' : ((m + 1 : Nat) : Int) - 1 = (m : Int) := by omega
    have h := st8_3b ((m + 1 : Nat) : Int) (co : Int) (li : Int) (sz : Int) (strOfNums tx) A0 A1 D F.length k0 k1 c (e0 : Int) (e1 : Int) (e2 : Int) w hr hk hD (by rw [e1', beq_eq_false_iff_ne]; omega) (by rw [e1', IntKind.wrap_u64]; omega)
    rw [e1'] at h
    refine h.mono ?_
    rintro e w' ⟨A2, k2, rfl, hle, hC, hb⟩
    exact ⟨⟨3, m, co, li, sz, tx, D ++ [c], F⟩, 0, A2, A1, k2, k1, rfl, hle, hk1, hC, Kd.C_below hr1 hb, hb, .inl ⟨(step3 rfl).trans (if_neg (show ¬ m + 1 - 1 = 0 by omega)), rfl⟩, .inl rfl⟩
theorem dropLast_extract (tx : List Int) : (strOfNums tx).extract 0 ((strOfNums tx).size - 1) = strOfNums tx.dropLast := by
  apply ByteArray.ext
  apply Array.toList_inj.1
  rw [strOfNums_data, Go.strOfNums_size, ByteArray.data_extract, Array.toList_extract, strOfNums_data, List.extract_eq_take_drop, List.dropLast_eq_take, List.map_take]
  simp
theorem s8_9 (hr : Kd.C (Kd.int .u8) w A0 D.length D) (hk : D.length ≤ k0) (hr1 : Kd.C k28 w A1 F.length F) (hk1 : F.length ≤ k1) (hG : TabOk w) (hc : 0 ≤ c ∧ c ≤ 255) (htx : tx.length ≤ 1000000) (hsz : sz ≤ 1000000) (hF : F.length ≤ 1000000) (ht0 : 0 < tx.length) :
    Calls Tryz.prog 43 #[stM ⟨9, n, co, li, sz, tx, D, F⟩ (.slice A0 D.length k0) (.slice A1 F.length k1), .int .u8 c, .agg #[.int .i64 (e0 : Int), .int .i64 (e1 : Int), .int .i64 (e2 : Int)]] w (Post8 A1 (envM e0 e1 e2) ⟨9, n, co, li, sz, tx, D, F⟩ c w) := by
  by_cases h : c = 10
  · subst h
    by_cases hz : e2 ≤ sz
    · exact post_same ⟨9, n, co, li, sz, tx, D, F⟩ 5 rfl rfl hr hk hr1 hk1 (.inr ⟨(step9 rfl).trans ((if_neg (by decide)).trans (line_full hz)), by decide⟩) (st8_9b _ _ _ _ _ _ _ _ _ _ _ _ _ _ _ _ _ _ _ _ hG (by decide) (fun W hW => ln8_a _ _ _ _ _ _ _ _ _ _ _ _ _ _ _ _ W (show (e2 : Int) ≤ (sz : Int) by omega)))
    · have hs : (strOfNums tx).size = tx.length := Go.strOfNums_size tx
      obtain ⟨K, hK⟩ := ref05_Parse (strOfNums tx.dropLast) (by rw [Go.strOfNums_size, List.length_dropLast]; omega)
      have hp := hK K (Nat.le_refl _)
      simp only at hp
      have hpf : (⟨parseF (strOfNums tx.dropLast), parseV (strOfNums tx.dropLast)⟩ : Fld) = pfM tx.dropLast := rfl
      have HL := fun W (hW : Below w.heap.size w W) => ln8_d (n : Int) (co : Int) (li : Int) (sz : Int) (strOfNums tx) A0 A1 D.length k0 k1 F 10 (e0 : Int) (e1 : Int) (e2 : Int) W (Kd.C_below hr1 hW) hk1 (hG.below hW) (show ¬ (e2 : Int) ≤ (sz : Int) by omega) (by decide) (wrap_nat hsz) (by omega) (by omega) hF K _ _ _ (by rw [dropLast_extract]; exact hp)
      rw [hpf] at HL
      refine (st8_9d (n : Int) (co : Int) (li : Int) (sz : Int) (strOfNums tx) A0 A1 D.length k0 k1 F (F ++ [pfM tx.dropLast]) 10 (e0 : Int) (e1 : Int) (e2 : Int) w (by decide) (by rw [List.length_append]; simp) HL).mono ?_
      rintro e w' ⟨A2, k2, rfl, hle, hC, hb, hfr⟩
      exact ⟨⟨6, n, co, li, sz + 1, [], D, F ++ [pfM tx.dropLast]⟩, 0, A0, A2, k0, k2, rfl, hk, hle, Kd.C_below hr hb, hC, hb, .inl ⟨(step9 rfl).trans ((if_neg (by decide)).trans (line_end (by show sz < e2; omega) rfl)), rfl⟩, .inr hfr⟩
  · exact post_same ⟨9, n, co, li, sz, tx, D, F⟩ 2 rfl rfl hr hk hr1 hk1 (.inr ⟨(step9 rfl).trans (if_pos h), by decide⟩) (st8_9a _ _ _ _ _ _ _ _ _ _ _ _ _ _ _ _ hG (by simp [h]))
end
theorem step8_calls (e0 e1 e2 : Nat) (X : MSt Fld) (hX : Inv8 X) (A0 A1 : Option Addr) (k0 k1 : Nat) (c : Int) (w : World) (hr : Kd.C (Kd.int .u8) w A0 X.data.length X.data) (hk : X.data.length ≤ k0) (hr1 : Kd.C k28 w A1 X.fields.length X.fields) (hk1 : X.fields.length ≤ k1) (hG : TabOk w) (hc : 0 ≤ c ∧ c ≤ 255) :
    Calls Tryz.prog 43 #[stM X (.slice A0 X.data.length k0) (.slice A1 X.fields.length k1), .int .u8 c, .agg #[.int .i64 (e0 : Int), .int .i64 (e1 : Int), .int .i64 (e2 : Int)]] w (Post8 A1 (envM e0 e1 e2) X c w) := by
  obtain ⟨p, n, co, li, sz, tx, D, F⟩ := X
  obtain ⟨q1, q2, q3, q4, q5, q6, q7, q8, q9, q10⟩ := hX
  dsimp only at q1 q2 q3 q4 q5 q6 q7 q8 q9 q10 hr hk hr1 hk1
  have hp : p = 0 ∨ p = 1 ∨ p = 2 ∨ p = 3 ∨ p = 4 ∨ p = 5 ∨ p = 6 ∨ p = 7 ∨ p = 8 ∨ p = 9 ∨ p = 10 := by omega
  rcases hp with rfl | rfl | rfl | rfl | rfl | rfl | rfl | rfl | rfl | rfl | rfl
  · exact s8_0 hr hk hr1 hk1 hG hc q3 q2
  · exact s8_1 hr hk hr1 hk1 hG hc q3
  · exact s8_2 hr hk hr1 hk1 hG hc
  · exact s8_3 hr hk hr1 hk1 q7 (q9 rfl) q2
  · exact s8_4 hr hk hr1 hk1 hG hc
  · exact s8_5 hr hk hr1 hk1 hG hc
  · exact s8_6 hr hk hr1 hk1 hG hc q6 q5 q4
  · exact s8_7 hr hk hr1 hk1 hG hc q6 q5
  · exact s8_8 hr hk hr1 hk1 hG hc q6 q5
  · exact s8_9 hr hk hr1 hk1 hG hc q6 q5 q8 (q10 rfl)
  · exact s8_10 hr hk hr1 hk1 hG hc
end Go.Proofs.YtmmbpbgcobmifaaGreatDoorH
end
section
namespace Go.Proofs.YtmmbpbgcobmifaaGreatDoor.Pr
end Go.Proofs.YtmmbpbgcobmifaaGreatDoor.Pr
namespace Go.Proofs.YtmmbpbgcobmifaaGreatDoorH
set_option linter.unusedVariables false
set_option linter.unusedSimpArgs false
open Go.RowKit Go.Proofs.YtmmbpbgcobmifaaGreatDoorW.PrintWords Go.Proofs.YtmmbpbgcobmifaaGreatDoorW.PrintLast Go.Proofs.YtmmbpbgcobmifaaGreatDoorW.PrintMore Go.Proofs.YtmmbpbgcobmifaaGreatDoor.Pr Go.Proofs.YtmmbpbgcobmifaaGreatDoorM
structure InvN (X : MSt Fld) (i : Nat) : Prop where
  pl : X.place ≤ 11
  n : X.n ≤ 4611686018427387903
  co : X.count ≤ i
  li : X.lines ≤ i
  sz : X.size ≤ i
  tx : X.text.length ≤ i
  dl : X.data.length ≤ i
  fl : X.fields.length ≤ i
  n3 : X.place = 3 → 0 < X.n
  t9 : X.place = 7 ∨ X.place = 8 ∨ X.place = 9 → 0 < X.text.length
theorem invN_init : InvN (minit : MSt Fld) 0 := ⟨by decide, by decide, Nat.le_refl _, Nat.le_refl _, Nat.le_refl _, Nat.le_refl _, Nat.le_refl _, Nat.le_refl _, fun h => absurd h (by decide), fun h => absurd h (by decide)⟩
theorem InvN.inv8 {X : MSt Fld} {i : Nat} (h : InvN X i) (hi : i ≤ 1000000) (hp : X.place ≠ 11) : Inv8 X := by
  obtain ⟨q1, q2, q3, q4, q5, q6, q7, q8, q9, q10⟩ := h
  exact ⟨by omega, q2, by omega, by omega, by omega, by omega, by omega, by omega, q9, fun h => q10 (.inr (.inr h))⟩
theorem invN_step {e0 e1 e2 : Nat} {X Y : MSt Fld} {c : Int} {i : Nat} (h : InvN X i) (hc : 0 ≤ c ∧ c ≤ 255) (hs : mstep (envM e0 e1 e2) X c = .ok Y) : InvN Y (i + 1) := by
  have hdg : (envM e0 e1 e2).dg c ≤ 15 := digit8_le hc
  obtain ⟨p, n, co, li, sz, tx, D, F⟩ := X
  obtain ⟨q1, q2, q3, q4, q5, q6, q7, q8, q9, q10⟩ := h
  dsimp only at q1 q2 q3 q4 q5 q6 q7 q8 q9 q10
  have hD : (D ++ [c]).length ≤ i + 1 := by rw [List.length_append]; simp; omega
  have hline : ∀ p2 li2, (p2 = 7 ∨ p2 = 8 ∨ p2 = 9) → (p2 = 7 ∨ 0 < tx.length) → li2 ≤ i + 1 → mline (envM e0 e1 e2) ⟨p2, n, co, li2, sz, tx, D, F⟩ c = .ok Y → InvN Y (i + 1) := by
    intro p2 li2 hp2 ht hl hm
    unfold mline at hm
    split at hm
    · cases hm
    · split at hm
      · cases hm
        exact ⟨by show 6 ≤ 11; omega, q2, (show co ≤ i + 1 by omega), hl, (show sz + 1 ≤ i + 1 by omega), Nat.zero_le _, (show D.length ≤ i + 1 by omega), (by show (F ++ _).length ≤ i + 1; rw [List.length_append]; simp; omega), fun h => by simp at h, fun h => by simp at h⟩
      · cases hm
        exact ⟨(show p2 ≤ 11 by omega), q2, (show co ≤ i + 1 by omega), hl, (show sz + 1 ≤ i + 1 by omega), (by show (tx ++ [c]).length ≤ i + 1; rw [List.length_append]; simp; omega), (show D.length ≤ i + 1 by omega), (show F.length ≤ i + 1 by omega), fun h => by have : p2 = 3 := h; omega, fun _ => by show 0 < (tx ++ [c]).length; rw [List.length_append]; simp⟩
  unfold mstep at hs
  dsimp only at hs
  repeat' split at hs
  all_goals first
    | (cases hs; done)
    | exact hline _ _ (by omega) (by omega) (by omega) hs
    | exact hline _ _ (by omega) (by first | (left; omega) | (right; exact q10 (by omega))) (by omega) hs
    | (cases hs; refine ⟨?_, ?_, ?_, ?_, ?_, ?_, ?_, ?_, ?_, ?_⟩ <;> dsimp only <;> first | assumption | omega | (intro h; omega))
end Go.Proofs.YtmmbpbgcobmifaaGreatDoorH
end
section
namespace Go.Proofs.YtmmbpbgcobmifaaGreatDoor.Pr
end Go.Proofs.YtmmbpbgcobmifaaGreatDoor.Pr
namespace Go.Proofs.YtmmbpbgcobmifaaGreatDoorH
set_option linter.unusedVariables false
set_option linter.unusedSimpArgs false
open Go Go.RowKit Go.Proofs.YtmmbpbgcobmifaaGreatDoorW.PrintWords Go.Proofs.YtmmbpbgcobmifaaGreatDoorW.PrintLast Go.Proofs.YtmmbpbgcobmifaaGreatDoorW.PrintMore Go.Proofs.YtmmbpbgcobmifaaGreatDoor.Pr Go.Proofs.YtmmbpbgcobmifaaGreatDoorM
theorem put10 {W : World} {g : Nat} {t : TypeId} {z0 z1 z2 z3 z4 z5 z6 z7 z8 z9 : Value} (h : W.heap[g]? = some (.cells #[z0, z1, z2, z3, z4, z5, z6, z7, z8, z9] t (0, 0))) (v0 v1 v2 v3 v4 v5 v6 v7 v8 v9 : Value) : ((((((((((W.setCell ⟨g, 0, none⟩ v0).setCell ⟨g, 1, none⟩ v1).setCell ⟨g, 2, none⟩ v2).setCell ⟨g, 3, none⟩ v3).setCell ⟨g, 4, none⟩ v4).setCell ⟨g, 5, none⟩ v5).setCell ⟨g, 6, none⟩ v6).setCell ⟨g, 7, none⟩ v7).setCell ⟨g, 8, none⟩ v8).setCell ⟨g, 9, none⟩ v9).heap[g]? = some (.cells #[v0, v1, v2, v3, v4, v5, v6, v7, v8, v9] t (0, 0)) := blk_put (cs := #[v0, v1, v2, v3, v4, v5, v6, v7, v8, z9]) (blk_put (cs := #[v0, v1, v2, v3, v4, v5, v6, v7, z8, z9]) (blk_put (cs := #[v0, v1, v2, v3, v4, v5, v6, z7, z8, z9]) (blk_put (cs := #[v0, v1, v2, v3, v4, v5, z6, z7, z8, z9]) (blk_put (cs := #[v0, v1, v2, v3, v4, z5, z6, z7, z8, z9]) (blk_put (cs := #[v0, v1, v2, v3, z4, z5, z6, z7, z8, z9]) (blk_put (cs := #[v0, v1, v2, z3, z4, z5, z6, z7, z8, z9]) (blk_put (cs := #[v0, v1, z2, z3, z4, z5, z6, z7, z8, z9]) (blk_put (cs := #[v0, z1, z2, z3, z4, z5, z6, z7, z8, z9]) (blk_put (cs := #[z0, z1, z2, z3, z4, z5, z6, z7, z8, z9]) h 0 _ rfl) 1 _ rfl) 2 _ rfl) 3 _ rfl) 4 _ rfl) 5 _ rfl) 6 _ rfl) 7 _ rfl) 8 _ rfl) 9 _ rfl
theorem far8 (W : World) (g : Nat) (v0 v1 v2 v3 v4 v5 v6 v7 : Value) (k : Nat) (hk : k ≠ g) : ((((((((W.setCell ⟨g, 0, none⟩ v0).setCell ⟨g, 1, none⟩ v1).setCell ⟨g, 2, none⟩ v2).setCell ⟨g, 3, none⟩ v3).setCell ⟨g, 4, none⟩ v4).setCell ⟨g, 5, none⟩ v5).setCell ⟨g, 6, none⟩ v6).setCell ⟨g, 7, none⟩ v7).heap[k]? = W.heap[k]? := by rw [farH _ _ _ _ _ hk, farH _ _ _ _ _ hk, farH _ _ _ _ _ hk, farH _ _ _ _ _ hk, farH _ _ _ _ _ hk, farH _ _ _ _ _ hk, farH _ _ _ _ _ hk, farH _ _ _ _ _ hk]
theorem far10 (W : World) (g : Nat) (v0 v1 v2 v3 v4 v5 v6 v7 v8 v9 : Value) (k : Nat) (hk : k ≠ g) : ((((((((((W.setCell ⟨g, 0, none⟩ v0).setCell ⟨g, 1, none⟩ v1).setCell ⟨g, 2, none⟩ v2).setCell ⟨g, 3, none⟩ v3).setCell ⟨g, 4, none⟩ v4).setCell ⟨g, 5, none⟩ v5).setCell ⟨g, 6, none⟩ v6).setCell ⟨g, 7, none⟩ v7).setCell ⟨g, 8, none⟩ v8).setCell ⟨g, 9, none⟩ v9).heap[k]? = W.heap[k]? := by rw [farH _ _ _ _ _ hk, farH _ _ _ _ _ hk, farH _ _ _ _ _ hk, farH _ _ _ _ _ hk, farH _ _ _ _ _ hk, farH _ _ _ _ _ hk, farH _ _ _ _ _ hk, farH _ _ _ _ _ hk, farH _ _ _ _ _ hk, farH _ _ _ _ _ hk]
theorem below_put8 {B : Nat} {w W : World} (h : Below B w W) (g : Nat) (hg : B ≤ g) (v0 v1 v2 v3 v4 v5 v6 v7 : Value) : Below B w ((((((((W.setCell ⟨g, 0, none⟩ v0).setCell ⟨g, 1, none⟩ v1).setCell ⟨g, 2, none⟩ v2).setCell ⟨g, 3, none⟩ v3).setCell ⟨g, 4, none⟩ v4).setCell ⟨g, 5, none⟩ v5).setCell ⟨g, 6, none⟩ v6).setCell ⟨g, 7, none⟩ v7) := bset (bset (bset (bset (bset (bset (bset (bset h _ _ _ hg) _ _ _ hg) _ _ _ hg) _ _ _ hg) _ _ _ hg) _ _ _ hg) _ _ _ hg) _ _ _ hg
theorem below_put10 {B : Nat} {w W : World} (h : Below B w W) (g : Nat) (hg : B ≤ g) (v0 v1 v2 v3 v4 v5 v6 v7 v8 v9 : Value) : Below B w ((((((((((W.setCell ⟨g, 0, none⟩ v0).setCell ⟨g, 1, none⟩ v1).setCell ⟨g, 2, none⟩ v2).setCell ⟨g, 3, none⟩ v3).setCell ⟨g, 4, none⟩ v4).setCell ⟨g, 5, none⟩ v5).setCell ⟨g, 6, none⟩ v6).setCell ⟨g, 7, none⟩ v7).setCell ⟨g, 8, none⟩ v8).setCell ⟨g, 9, none⟩ v9) := bset (bset (bset (bset (bset (bset (bset (bset (bset (bset h _ _ _ hg) _ _ _ hg) _ _ _ hg) _ _ _ hg) _ _ _ hg) _ _ _ hg) _ _ _ hg) _ _ _ hg) _ _ _ hg) _ _ _ hg
structure NoRow (cs : Array Value) : Prop where
  b : ∀ (j : Nat) (x : Int), cs[j]? ≠ some (.int .u8 x)
  s : ∀ (j : Nat) x y, cs[j]? = some (.string x) → cs[j + 1]? ≠ some (.string y)
theorem noRow8 (a0 a1 a2 a3 a4 : Int) (tx : ByteArray) (A B : Option Addr) (m n j k : Nat) : NoRow #[.int .i64 a0, .int .u64 a1, .int .i64 a2, .int .i64 a3, .int .i64 a4, .string tx, .slice A m j, .slice B n k] := by
  refine ⟨fun i x => ?_, fun i x y h => ?_⟩
  · rcases i with _ | _ | _ | _ | _ | _ | _ | _ | i <;> simp
  · rcases i with _ | _ | _ | _ | _ | _ | _ | _ | i <;> simp at h ⊢
theorem noRow10 (a0 a1 a2 a3 a4 a8 a9 : Int) (tx : ByteArray) (A B : Option Addr) (m n j k : Nat) : NoRow #[.int .i64 a0, .int .u64 a1, .int .i64 a2, .int .i64 a3, .int .i64 a4, .string tx, .slice A m j, .slice B n k, .int .i64 a8, .int .i64 a9] := by
  refine ⟨fun i x => ?_, fun i x y h => ?_⟩
  · rcases i with _ | _ | _ | _ | _ | _ | _ | _ | _ | _ | i <;> simp
  · rcases i with _ | _ | _ | _ | _ | _ | _ | _ | _ | _ | i <;> simp at h ⊢
theorem cell_in {W : World} {g : Nat} {cs : Array Value} {t : TypeId} {fr : Nat × Nat} (h : W.heap[g]? = some (.cells cs t fr)) {a : Addr} (ha : a.block = g) {v : Value} (hv : W.cell? a = some v) : cs[a.off]? = some v := by
  unfold World.cell? at hv
  rw [ha, h] at hv
  dsimp only at hv
  split at hv
  · cases hv
  · exact hv
theorem cell_far {W W' : World} {a : Addr} (h : W'.heap[a.block]? = W.heap[a.block]?) : W'.cell? a = W.cell? a := by unfold World.cell?; rw [h]
theorem C8_keep {W W' : World} {g : Nat} {cs : Array Value} {t : TypeId} {fr : Nat × Nat} (hg : W.heap[g]? = some (.cells cs t fr)) (hn : NoRow cs) (hk : ∀ k, k ≠ g → W'.heap[k]? = W.heap[k]?) {A : Option Addr} {n : Nat} {xs : List Int} (h : Kd.C (Kd.int .u8) W A n xs) : Kd.C (Kd.int .u8) W' A n xs := by
  obtain ⟨h1, h2, h3⟩ := h
  refine ⟨h1, h2, fun hp => ?_⟩
  obtain ⟨ad, e, hc⟩ := h3 hp
  refine ⟨ad, e, fun i q hi => ?_⟩
  obtain ⟨cs', a, b, hcell⟩ := hc i q hi
  refine ⟨cs', a, b, fun m u hu => ?_⟩
  have hu2 := hcell m u hu
  have hb : cs' = [.int .u8 q] := b
  have hq : u = .int .u8 q := by
    rw [hb] at hu
    match m with
    | 0 => simpa using hu.symm
    | m + 1 => simp at hu
  subst hq
  rw [cell_far (hk _ fun e => hn.b _ _ (cell_in hg e hu2))]
  exact hu2
theorem CF_keep {W W' : World} {g : Nat} {cs : Array Value} {t : TypeId} {fr : Nat × Nat} (hg : W.heap[g]? = some (.cells cs t fr)) (hn : NoRow cs) (hk : ∀ k, k ≠ g → W'.heap[k]? = W.heap[k]?) {A : Option Addr} {n : Nat} {xs : List Fld} (h : Kd.C k28 W A n xs) : Kd.C k28 W' A n xs := by
  obtain ⟨h1, h2, h3⟩ := h
  refine ⟨h1, h2, fun hp => ?_⟩
  obtain ⟨ad, e, hc⟩ := h3 hp
  refine ⟨ad, e, fun i q hi => ?_⟩
  obtain ⟨cs', a, b, hcell⟩ := hc i q hi
  have hb : cs' = [.string q.f0, .string q.f1] := k28_open b
  have c0 := hcell 0 (.string q.f0) (by rw [hb]; rfl)
  have c1 := hcell 1 (.string q.f1) (by rw [hb]; rfl)
  refine ⟨cs', a, b, fun m u hu => ?_⟩
  have hu2 := hcell m u hu
  have hbk : ∀ z, (ad.add z).block = ad.block := fun z => by unfold Addr.add; split <;> rfl
  have hoff : ∀ z, (ad.add z).off = ad.off + z := fun z => by unfold Addr.add; split <;> simp_all
  rw [cell_far (hk _ fun e => ?_)]
  · exact hu2
  · rw [hbk] at e
    have d0 := cell_in hg ((hbk _).trans e) c0
    have d1 := cell_in hg ((hbk _).trans e) c1
    rw [hoff] at d0 d1
    exact hn.s _ _ _ d0 d1
end Go.Proofs.YtmmbpbgcobmifaaGreatDoorH
end
section
namespace Go.Proofs.YtmmbpbgcobmifaaGreatDoor.Pr
end Go.Proofs.YtmmbpbgcobmifaaGreatDoor.Pr
namespace Go.Proofs.YtmmbpbgcobmifaaGreatDoorH
set_option linter.unusedVariables false
set_option linter.unusedSimpArgs false
open Go Go.RowKit Go.Proofs.YtmmbpbgcobmifaaGreatDoorW.PrintWords Go.Proofs.YtmmbpbgcobmifaaGreatDoorW.PrintLast Go.Proofs.YtmmbpbgcobmifaaGreatDoorW.PrintMore Go.Proofs.YtmmbpbgcobmifaaGreatDoor.Pr Go.Proofs.YtmmbpbgcobmifaaGreatDoorM
structure Scan8 (w W : World) (e0 e1 e2 : Nat) (X : MSt Fld) (B0 B1 : Option Addr) (j0 j1 : Nat) : Prop where
  l : W.heap[w.heap.size]? = some (.cells #[Value.int .i64 (e0 : Int), Value.int .i64 (e1 : Int), Value.int .i64 (e2 : Int)] 46 (0, 0))
  g : W.heap[w.heap.size + 1]? = some (.cells #[Value.int .i64 0, Value.int .u64 0, Value.int .i64 0, Value.int .i64 0, Value.int .i64 0, Value.string ⟨#[]⟩, Value.slice none 0 0, Value.slice none 0 0, Value.int .i64 0, Value.int .i64 0] 84 (0, 0))
  s : W.heap[w.heap.size + 1 + 1]? = some (.cells #[Value.int .i64 (X.place : Int), Value.int .u64 (X.n : Int), Value.int .i64 (X.count : Int), Value.int .i64 (X.lines : Int), Value.int .i64 (X.size : Int), Value.string (strOfNums X.text), Value.slice B0 X.data.length j0, Value.slice B1 X.fields.length j1] 82 (0, 0))
  r0 : Kd.C (Kd.int .u8) W B0 X.data.length X.data
  r1 : Kd.C k28 W B1 X.fields.length X.fields
  h0 : X.data.length ≤ j0
  h1 : X.fields.length ≤ j1
  b : Below w.heap.size w W
  fr : ∀ ad, B1 = some ad → w.heap.size ≤ ad.block
abbrev gotV (X : MSt Fld) (dv fv : Value) (at_ : Nat) (er : Int) : Value := .agg #[.int .i64 (X.place : Int), .int .u64 (X.n : Int), .int .i64 (X.count : Int), .int .i64 (X.lines : Int), .int .i64 (X.size : Int), .string (strOfNums X.text), dv, fv, .int .i64 (at_ : Int), .int .i64 er]
set_option maxHeartbeats 4000000 in
set_option maxRecDepth 100000 in
theorem scan8_fresh (A : Option Addr) (c : Nat) (s : List Int) (e0 e1 e2 : Nat) (w : World) (hr : Kd.C (Kd.int .u8) w A s.length s) (hc : s.length ≤ c) (hG : TabOk w) (hs : ByteL s) (hl : s.length ≤ 100000) :
    Calls Tryz.prog 29 #[.slice A s.length c, .agg #[Value.int .i64 (e0 : Int), Value.int .i64 (e1 : Int), Value.int .i64 (e2 : Int)]] w fun e w' => ∃ (X : MSt Fld) (at_ : Nat) (er : Int) (B0 B1 : Option Addr) (j0 j1 : Nat), e = .returned (gotV X (.slice B0 X.data.length j0) (.slice B1 X.fields.length j1) at_ er) ∧ mrun (envM e0 e1 e2) minit s 0 = (X, at_, er) ∧ X.data.length ≤ j0 ∧ X.fields.length ≤ j1 ∧ Kd.C (Kd.int .u8) w' B0 X.data.length X.data ∧ Kd.C k28 w' B1 X.fields.length X.fields ∧ Below w.heap.size w w' ∧ ∀ ad, B1 = some ad → w.heap.size ≤ ad.block := by
  have HK := Aside0.mk (fun (W : World) (h : Below w.heap.size w W) => (⟨Kd.C_below hr h, hG.below h⟩ : Kd.C (Kd.int .u8) W A s.length s ∧ TabOk W))
  have HS := Aside0.mk hs
  clear hr hG hs
  go_enter Tryz.func29, Tryz.ntmps29
  go_wp2_with fail
  go_loopw [6] (fun u6 wr => ∃ (k : Nat) (X : MSt Fld) (B0 B1 : Option Addr) (j0 j1 : Nat), u6 = .int .i64 (k : Int) ∧ k ≤ s.length ∧ X.place ≠ 11 ∧ Aside0 (InvN X k) ∧ Aside0 (mrun (envM e0 e1 e2) minit s 0 = mrun (envM e0 e1 e2) X (s.drop k) k) ∧ Aside0 (Scan8 w wr e0 e1 e2 X B0 B1 j0 j1)) (fun u6 _ => s.length - (intOf u6).toNat)
  case atStart =>
    refine ⟨0, minit, none, none, 0, 0, rfl, Nat.zero_le _, by decide, ⟨invN_init⟩, ⟨rfl⟩, ⟨⟨alloc_keep _ (alloc_keep _ (World.alloc_heap_new w _)), ?_, blk3 w _ _ _ _, ⟨rfl, Nat.zero_le _, fun h => absurd h (Nat.lt_irrefl _)⟩, ⟨rfl, Nat.zero_le _, fun h => absurd h (Nat.lt_irrefl _)⟩, Nat.le_refl _, Nat.le_refl _, below3 (Below.refl _ _) _ _ _, fun ad e => by cases e⟩⟩⟩
    have := World.alloc_heap_new (w.alloc (.cells #[Value.int .i64 (e0 : Int), Value.int .i64 (e1 : Int), Value.int .i64 (e2 : Int)] 46)) (.cells #[Value.int .i64 0, Value.int .u64 0, Value.int .i64 0, Value.int .i64 0, Value.int .i64 0, Value.string ⟨#[]⟩, Value.slice none 0 0, Value.slice none 0 0, Value.int .i64 0, Value.int .i64 0] 84)
    rw [World.size_alloc] at this
    exact alloc_keep _ this
  case round =>
    obtain ⟨k, X, B0, B1, j0, j1, rfl, hk, hp, HI, HM, HQ⟩ := hrel
    by_cases hlt : k < s.length
    · have hlt' : (k : Int) < (s.length : Int) := by omega
      have hge' : (0 : Int) ≤ (k : Int) := by omega
      obtain ⟨ad, eA, _, hcell⟩ := C_u8 (HK.out _ HQ.out.b).1 (by omega)
      have hck := hcell k (s.getD k 0) (by rw [List.getD_eq_getElem?_getD, List.getElem?_eq_getElem hlt]; rfl)
      have hcb := HS.out (s.getD k 0) (by rw [List.getD_eq_getElem?_getD, List.getElem?_eq_getElem hlt]; exact List.getElem_mem hlt)
      have HDR := Aside0.mk (drop_at hlt)
      clear hcell
      subst eA
      generalize s.getD k 0 = x at *
      have HSTEP := Aside0.mk (fun W (h : Below wr.heap.size wr W) => step8_calls e0 e1 e2 X (HI.out.inv8 (by omega) hp) B0 B1 j0 j1 x W (Kd.C_below HQ.out.r0 h) HQ.out.h0 (Kd.C_below HQ.out.r1 h) HQ.out.h1 (HK.out W (HQ.out.b.trans (h.mono HQ.out.b.size))).2 hcb)
      have s0 : wr.cell? ⟨w.heap.size + 1 + 1, 0, none⟩ = some (Value.int .i64 (X.place : Int)) := (blk_cell HQ.out.s 0).trans rfl
      have s1 : wr.cell? ⟨w.heap.size + 1 + 1, 1, none⟩ = some (Value.int .u64 (X.n : Int)) := (blk_cell HQ.out.s 1).trans rfl
      have s2 : wr.cell? ⟨w.heap.size + 1 + 1, 2, none⟩ = some (Value.int .i64 (X.count : Int)) := (blk_cell HQ.out.s 2).trans rfl
      have s3 : wr.cell? ⟨w.heap.size + 1 + 1, 3, none⟩ = some (Value.int .i64 (X.lines : Int)) := (blk_cell HQ.out.s 3).trans rfl
      have s4 : wr.cell? ⟨w.heap.size + 1 + 1, 4, none⟩ = some (Value.int .i64 (X.size : Int)) := (blk_cell HQ.out.s 4).trans rfl
      have s5 : wr.cell? ⟨w.heap.size + 1 + 1, 5, none⟩ = some (Value.string (strOfNums X.text)) := (blk_cell HQ.out.s 5).trans rfl
      have s6 : wr.cell? ⟨w.heap.size + 1 + 1, 6, none⟩ = some (Value.slice B0 X.data.length j0) := (blk_cell HQ.out.s 6).trans rfl
      have s7 : wr.cell? ⟨w.heap.size + 1 + 1, 7, none⟩ = some (Value.slice B1 X.fields.length j1) := (blk_cell HQ.out.s 7).trans rfl
      have l0 : wr.cell? ⟨w.heap.size, 0, none⟩ = some (Value.int .i64 (e0 : Int)) := (blk_cell HQ.out.l 0).trans rfl
      have l1 : wr.cell? ⟨w.heap.size, 1, none⟩ = some (Value.int .i64 (e1 : Int)) := (blk_cell HQ.out.l 1).trans rfl
      have l2 : wr.cell? ⟨w.heap.size, 2, none⟩ = some (Value.int .i64 (e2 : Int)) := (blk_cell HQ.out.l 2).trans rfl
      have HCK := Aside0.mk hck
      have HCB := Aside0.mk hcb
      have HCE := Aside0.mk (fun (W : World) (h : Below wr.heap.size wr W) => (show W.cell? ⟨w.heap.size + 1 + 1, 0, none⟩ = some (Value.int .i64 (X.place : Int)) ∧ W.cell? ⟨w.heap.size + 1 + 1, 1, none⟩ = some (Value.int .u64 (X.n : Int)) ∧ W.cell? ⟨w.heap.size + 1 + 1, 2, none⟩ = some (Value.int .i64 (X.count : Int)) ∧ W.cell? ⟨w.heap.size + 1 + 1, 3, none⟩ = some (Value.int .i64 (X.lines : Int)) ∧ W.cell? ⟨w.heap.size + 1 + 1, 4, none⟩ = some (Value.int .i64 (X.size : Int)) ∧ W.cell? ⟨w.heap.size + 1 + 1, 5, none⟩ = some (Value.string (strOfNums X.text)) ∧ W.cell? ⟨w.heap.size + 1 + 1, 6, none⟩ = some (Value.slice B0 X.data.length j0) ∧ W.cell? ⟨w.heap.size + 1 + 1, 7, none⟩ = some (Value.slice B1 X.fields.length j1) ∧ W.cell? ⟨w.heap.size, 0, none⟩ = some (Value.int .i64 (e0 : Int)) ∧ W.cell? ⟨w.heap.size, 1, none⟩ = some (Value.int .i64 (e1 : Int)) ∧ W.cell? ⟨w.heap.size, 2, none⟩ = some (Value.int .i64 (e2 : Int)) ∧ W.cell? (ad.add k) = some (.int .u8 x) from ⟨(blk_cell ((h.block _ (blk_lt HQ.out.s)).trans HQ.out.s) 0).trans rfl, (blk_cell ((h.block _ (blk_lt HQ.out.s)).trans HQ.out.s) 1).trans rfl, (blk_cell ((h.block _ (blk_lt HQ.out.s)).trans HQ.out.s) 2).trans rfl, (blk_cell ((h.block _ (blk_lt HQ.out.s)).trans HQ.out.s) 3).trans rfl, (blk_cell ((h.block _ (blk_lt HQ.out.s)).trans HQ.out.s) 4).trans rfl, (blk_cell ((h.block _ (blk_lt HQ.out.s)).trans HQ.out.s) 5).trans rfl, (blk_cell ((h.block _ (blk_lt HQ.out.s)).trans HQ.out.s) 6).trans rfl, (blk_cell ((h.block _ (blk_lt HQ.out.s)).trans HQ.out.s) 7).trans rfl, (blk_cell ((h.block _ (blk_lt HQ.out.l)).trans HQ.out.l) 0).trans rfl, (blk_cell ((h.block _ (blk_lt HQ.out.l)).trans HQ.out.l) 1).trans rfl, (blk_cell ((h.block _ (blk_lt HQ.out.l)).trans HQ.out.l) 2).trans rfl, pw_cell_below h HCK.out⟩))
      have HA := Aside0.mk (fun W W' (h : Below wr.heap.size wr W) (h2 : Below W.heap.size W W') => h.trans (h2.mono h.size))
      have HD := Aside0.mk (below_drew (Below.refl wr.heap.size wr))
      have HAL := Aside0.mk (below_drew (below_alloc (Below.refl wr.heap.size wr) (.cells #[Value.int .i64 0, Value.int .u64 0, Value.int .i64 0, Value.int .i64 0, Value.int .i64 0, Value.string ⟨#[]⟩, Value.slice none 0 0, Value.slice none 0 0] 82)))
      have HBK := Aside0.mk (fun W' (h : Below (wr.alloc (.cells #[Value.int .i64 0, Value.int .u64 0, Value.int .i64 0, Value.int .i64 0, Value.int .i64 0, Value.string ⟨#[]⟩, Value.slice none 0 0, Value.slice none 0 0] 82)).drew.heap.size (wr.alloc (.cells #[Value.int .i64 0, Value.int .u64 0, Value.int .i64 0, Value.int .i64 0, Value.int .i64 0, Value.string ⟨#[]⟩, Value.slice none 0 0, Value.slice none 0 0] 82)).drew W') => (h.block _ (blk_lt (blk_drew (World.alloc_heap_new wr (.cells #[Value.int .i64 0, Value.int .u64 0, Value.int .i64 0, Value.int .i64 0, Value.int .i64 0, Value.string ⟨#[]⟩, Value.slice none 0 0, Value.slice none 0 0] 82))))).trans (blk_drew (World.alloc_heap_new wr (.cells #[Value.int .i64 0, Value.int .u64 0, Value.int .i64 0, Value.int .i64 0, Value.int .i64 0, Value.string ⟨#[]⟩, Value.slice none 0 0, Value.slice none 0 0] 82))))
      have hwl : w.heap.size + 1 + 1 < wr.heap.size := blk_lt HQ.out.s
      have d := HCE.out _ HD.out
      clear s0 s1 s2 s3 s4 s5 s6 s7 l0 l1 l2 hck
      go_upto_region 5 with (fail)
      have HPL := Aside0.mk HQ.out.b.size
      go_cut [7, 8] (fun u7 u8 wc => ∃ (gx : Nat) (Y : MSt Fld) (er : Int) (C0 C1 : Option Addr) (i0 i1 : Nat), u7 = .pointer (some ⟨gx, 0, none⟩) ∧ u8 = .int .i64 er ∧ Aside0 (wc.heap[gx]? = some (.cells #[Value.int .i64 (Y.place : Int), Value.int .u64 (Y.n : Int), Value.int .i64 (Y.count : Int), Value.int .i64 (Y.lines : Int), Value.int .i64 (Y.size : Int), Value.string (strOfNums Y.text), Value.slice C0 Y.data.length i0, Value.slice C1 Y.fields.length i1] 82 (0, 0))) ∧ Aside0 (wr.heap.size ≤ gx) ∧ Aside0 (Below wr.heap.size wr wc) ∧ Aside0 (mstep (envM e0 e1 e2) X x = .ok Y ∧ er = 0 ∨ mstep (envM e0 e1 e2) X x = .error er ∧ er ≠ 0) ∧ Aside0 (Y.data.length ≤ i0 ∧ Kd.C (Kd.int .u8) wc C0 Y.data.length Y.data) ∧ Aside0 (Y.fields.length ≤ i1 ∧ Kd.C k28 wc C1 Y.fields.length Y.fields) ∧ Aside0 (C1 = B1 ∨ ∀ ad, C1 = some ad → wr.heap.size ≤ ad.block))
      case first =>
        go_region_held3 (fun WW => WW.cell? ⟨w.heap.size + 1 + 1, 0, none⟩ = some (Value.int .i64 (X.place : Int)) ∧ WW.cell? ⟨w.heap.size + 1 + 1, 1, none⟩ = some (Value.int .u64 (X.n : Int)) ∧ WW.cell? ⟨w.heap.size + 1 + 1, 2, none⟩ = some (Value.int .i64 (X.count : Int)) ∧ WW.cell? ⟨w.heap.size + 1 + 1, 3, none⟩ = some (Value.int .i64 (X.lines : Int)) ∧ WW.cell? ⟨w.heap.size + 1 + 1, 4, none⟩ = some (Value.int .i64 (X.size : Int)) ∧ WW.cell? ⟨w.heap.size + 1 + 1, 5, none⟩ = some (Value.string (strOfNums X.text)) ∧ WW.cell? ⟨w.heap.size + 1 + 1, 6, none⟩ = some (Value.slice B0 X.data.length j0) ∧ WW.cell? ⟨w.heap.size + 1 + 1, 7, none⟩ = some (Value.slice B1 X.fields.length j1) ∧ WW.cell? ⟨w.heap.size, 0, none⟩ = some (Value.int .i64 (e0 : Int)) ∧ WW.cell? ⟨w.heap.size, 1, none⟩ = some (Value.int .i64 (e1 : Int)) ∧ WW.cell? ⟨w.heap.size, 2, none⟩ = some (Value.int .i64 (e2 : Int)) ∧ WW.cell? (ad.add k) = some (.int .u8 x)) (first | with_reducible exact d | with_reducible exact y | with_reducible exact HCE.out _ (below_alloc HB7.out _) | with_reducible exact HCE.out _ HAL.out | exact HCE.out _ (bset (bset (bset (bset (bset (bset (bset (bset HB7.out _ _ _ (Nat.le_refl _)) _ _ _ (Nat.le_refl _)) _ _ _ (Nat.le_refl _)) _ _ _ (Nat.le_refl _)) _ _ _ (Nat.le_refl _)) _ _ _ (Nat.le_refl _)) _ _ _ (Nat.le_refl _)) _ _ _ (Nat.le_refl _)))
          (first
            | (go_at_call 43; refine (HSTEP.out _ HD.out).mono ?_; rintro e w7 ⟨Y, er, C0, C1, i0, i1, rfl, hi0, hi1, hc0, hc1, hb7, hm, hfr⟩; have HB7 := Aside0.mk (HA.out _ _ HD.out hb7); have y := HCE.out _ HB7.out; have HM7 := Aside0.mk hm; have HFR := Aside0.mk (hfr.imp_right (fun h ad e => Nat.le_trans HD.out.size (h ad e))); have HC0 := Aside0.mk (And.intro hi0 hc0); have HC1 := Aside0.mk (And.intro hi1 hc1); clear hi0 hi1 hc0 hc1 hb7 hm hfr)
            | (go_at_call 43; refine (HSTEP.out _ HAL.out).mono ?_; rintro e w7 ⟨Y, er, C0, C1, i0, i1, rfl, hi0, hi1, hc0, hc1, hb7, hm, hfr⟩; have HB7 := Aside0.mk (HA.out _ _ HAL.out hb7); have y := HCE.out _ HB7.out; have HM7 := Aside0.mk hm; have HFR := Aside0.mk (hfr.imp_right (fun h ad e => Nat.le_trans HAL.out.size (h ad e))); have HC0 := Aside0.mk (And.intro hi0 hc0); have HC1 := Aside0.mk (And.intro hi1 hc1); have hbk := HBK.out _ hb7; have p0 : w7.cell? ⟨wr.heap.size, 0, none⟩ = some (Value.int .i64 0) := (blk_cell hbk 0).trans rfl; have fz0 := blk_frozen hbk 0; have p1 : w7.cell? ⟨wr.heap.size, 1, none⟩ = some (Value.int .u64 0) := (blk_cell hbk 1).trans rfl; have fz1 := blk_frozen hbk 1; have p2 : w7.cell? ⟨wr.heap.size, 2, none⟩ = some (Value.int .i64 0) := (blk_cell hbk 2).trans rfl; have fz2 := blk_frozen hbk 2; have p3 : w7.cell? ⟨wr.heap.size, 3, none⟩ = some (Value.int .i64 0) := (blk_cell hbk 3).trans rfl; have fz3 := blk_frozen hbk 3; have p4 : w7.cell? ⟨wr.heap.size, 4, none⟩ = some (Value.int .i64 0) := (blk_cell hbk 4).trans rfl; have fz4 := blk_frozen hbk 4; have p5 : w7.cell? ⟨wr.heap.size, 5, none⟩ = some (Value.string ⟨#[]⟩) := (blk_cell hbk 5).trans rfl; have fz5 := blk_frozen hbk 5; have p6 : w7.cell? ⟨wr.heap.size, 6, none⟩ = some (Value.slice none 0 0) := (blk_cell hbk 6).trans rfl; have fz6 := blk_frozen hbk 6; have p7 : w7.cell? ⟨wr.heap.size, 7, none⟩ = some (Value.slice none 0 0) := (blk_cell hbk 7).trans rfl; have fz7 := blk_frozen hbk 7; have HBK7 := Aside0.mk hbk; clear hi0 hi1 hc0 hc1 hb7 hm hfr hbk))
        · go_wp2
          go_meet
          case rel =>
            exact ⟨_, Y, er, C0, C1, i0, i1, rfl, rfl, ⟨World.alloc_heap_new w7 _⟩, ⟨HB7.out.size⟩, ⟨below_alloc HB7.out _⟩, HM7, ⟨HC0.out.1, Kd.C_below HC0.out.2 (below_alloc (Below.refl _ _) _)⟩, ⟨HC1.out.1, Kd.C_below HC1.out.2 (below_alloc (Below.refl _ _) _)⟩, HFR⟩
        · go_wp2
          go_meet
          case rel =>
            exact ⟨_, Y, er, C0, C1, i0, i1, rfl, rfl, ⟨put8 HBK7.out _ _ _ _ _ _ _ _⟩, ⟨Nat.le_refl _⟩, ⟨below_put8 HB7.out _ (Nat.le_refl _) _ _ _ _ _ _ _ _⟩, HM7, ⟨HC0.out.1, C8_keep HBK7.out (noRow8 0 0 0 0 0 _ none none 0 0 0 0) (fun k hk => far8 _ _ _ _ _ _ _ _ _ _ k hk) HC0.out.2⟩, ⟨HC1.out.1, CF_keep HBK7.out (noRow8 0 0 0 0 0 _ none none 0 0 0 0) (fun k hk => far8 _ _ _ _ _ _ _ _ _ _ k hk) HC1.out.2⟩, HFR⟩
      case rest =>
        obtain ⟨gx, Y, er, C0, C1, i0, i1, rfl, rfl, HX, HGX, HBW, HM7, HC0, HC1, HFRC⟩ := hcut
        have HFQ := Aside0.mk (show ∀ ad, C1 = some ad → w.heap.size ≤ ad.block from fun ad e => HFRC.out.elim (fun h => HQ.out.fr ad (h ▸ e)) (fun h => Nat.le_trans HQ.out.b.size (h ad e)))
        obtain ⟨s0, s1, s2, s3, s4, s5, s6, s7, l0, l1, l2, ck⟩ := HCE.out _ HBW.out
        have hg1 := (HBW.out.block _ (blk_lt HQ.out.g)).trans HQ.out.g
        have HG1 := Aside0.mk hg1
        have g0 : wc.cell? ⟨w.heap.size + 1, 0, none⟩ = some (Value.int .i64 0) := (blk_cell hg1 0).trans rfl
        have gf0 := blk_frozen hg1 0
        have g1 : wc.cell? ⟨w.heap.size + 1, 1, none⟩ = some (Value.int .u64 0) := (blk_cell hg1 1).trans rfl
        have gf1 := blk_frozen hg1 1
        have g2 : wc.cell? ⟨w.heap.size + 1, 2, none⟩ = some (Value.int .i64 0) := (blk_cell hg1 2).trans rfl
        have gf2 := blk_frozen hg1 2
        have g3 : wc.cell? ⟨w.heap.size + 1, 3, none⟩ = some (Value.int .i64 0) := (blk_cell hg1 3).trans rfl
        have gf3 := blk_frozen hg1 3
        have g4 : wc.cell? ⟨w.heap.size + 1, 4, none⟩ = some (Value.int .i64 0) := (blk_cell hg1 4).trans rfl
        have gf4 := blk_frozen hg1 4
        have g5 : wc.cell? ⟨w.heap.size + 1, 5, none⟩ = some (Value.string ⟨#[]⟩) := (blk_cell hg1 5).trans rfl
        have gf5 := blk_frozen hg1 5
        have g6 : wc.cell? ⟨w.heap.size + 1, 6, none⟩ = some (Value.slice none 0 0) := (blk_cell hg1 6).trans rfl
        have gf6 := blk_frozen hg1 6
        have g7 : wc.cell? ⟨w.heap.size + 1, 7, none⟩ = some (Value.slice none 0 0) := (blk_cell hg1 7).trans rfl
        have gf7 := blk_frozen hg1 7
        have g8 : wc.cell? ⟨w.heap.size + 1, 8, none⟩ = some (Value.int .i64 0) := (blk_cell hg1 8).trans rfl
        have gf8 := blk_frozen hg1 8
        have g9 : wc.cell? ⟨w.heap.size + 1, 9, none⟩ = some (Value.int .i64 0) := (blk_cell hg1 9).trans rfl
        have gf9 := blk_frozen hg1 9
        clear hg1
        clear l0 l1 l2 ck
        rcases HM7.out with ⟨hok, rfl⟩ | ⟨herr, he⟩
        · have x0 := HX.out
          have HOK := Aside0.mk hok
          have xx0 : wc.cell? ⟨gx, 0, none⟩ = some (Value.int .i64 (Y.place : Int)) := (blk_cell x0 0).trans rfl
          have xx1 : wc.cell? ⟨gx, 1, none⟩ = some (Value.int .u64 (Y.n : Int)) := (blk_cell x0 1).trans rfl
          have xx2 : wc.cell? ⟨gx, 2, none⟩ = some (Value.int .i64 (Y.count : Int)) := (blk_cell x0 2).trans rfl
          have xx3 : wc.cell? ⟨gx, 3, none⟩ = some (Value.int .i64 (Y.lines : Int)) := (blk_cell x0 3).trans rfl
          have xx4 : wc.cell? ⟨gx, 4, none⟩ = some (Value.int .i64 (Y.size : Int)) := (blk_cell x0 4).trans rfl
          have xx5 : wc.cell? ⟨gx, 5, none⟩ = some (Value.string (strOfNums Y.text)) := (blk_cell x0 5).trans rfl
          have xx6 : wc.cell? ⟨gx, 6, none⟩ = some (Value.slice C0 Y.data.length i0) := (blk_cell x0 6).trans rfl
          have xx7 : wc.cell? ⟨gx, 7, none⟩ = some (Value.slice C1 Y.fields.length i1) := (blk_cell x0 7).trans rfl
          have hsb := (HBW.out.block _ (blk_lt HQ.out.s)).trans HQ.out.s
          have sf0 := blk_frozen hsb 0
          have sf1 := blk_frozen hsb 1
          have sf2 := blk_frozen hsb 2
          have sf3 := blk_frozen hsb 3
          have sf4 := blk_frozen hsb 4
          have sf5 := blk_frozen hsb 5
          have sf6 := blk_frozen hsb 6
          have sf7 := blk_frozen hsb 7
          clear x0 hok hsb
          go_upto_region 9 with (fail)
          obtain ⟨k1, hk1⟩ : ∃ k1, k + 1 = k1 := ⟨_, rfl⟩
          have hw1 : IntKind.i64.wrap ((k : Int) + 1) = (k1 : Int) := by
            unfold IntKind.wrap
            simp [IntKind.bits, IntKind.signed]
            omega
          obtain ⟨W2, hW2⟩ : ∃ W2, ((((((((wc.setCell ⟨w.heap.size + 1 + 1, 0, none⟩ (Value.int .i64 (Y.place : Int))).setCell ⟨w.heap.size + 1 + 1, 1, none⟩ (Value.int .u64 (Y.n : Int))).setCell ⟨w.heap.size + 1 + 1, 2, none⟩ (Value.int .i64 (Y.count : Int))).setCell ⟨w.heap.size + 1 + 1, 3, none⟩ (Value.int .i64 (Y.lines : Int))).setCell ⟨w.heap.size + 1 + 1, 4, none⟩ (Value.int .i64 (Y.size : Int))).setCell ⟨w.heap.size + 1 + 1, 5, none⟩ (Value.string (strOfNums Y.text))).setCell ⟨w.heap.size + 1 + 1, 6, none⟩ (Value.slice C0 Y.data.length i0)).setCell ⟨w.heap.size + 1 + 1, 7, none⟩ (Value.slice C1 Y.fields.length i1)) = W2 := ⟨_, rfl⟩
          have HK2 := Aside0.mk (show ∀ q, q ≠ w.heap.size + 1 + 1 → W2.heap[q]? = wc.heap[q]? by intro q hq; rw [← hW2]; exact far8 _ _ _ _ _ _ _ _ _ _ q hq)
          have HS2 := Aside0.mk (show W2.heap[w.heap.size + 1 + 1]? = some (.cells #[Value.int .i64 (Y.place : Int), Value.int .u64 (Y.n : Int), Value.int .i64 (Y.count : Int), Value.int .i64 (Y.lines : Int), Value.int .i64 (Y.size : Int), Value.string (strOfNums Y.text), Value.slice C0 Y.data.length i0, Value.slice C1 Y.fields.length i1] 82 (0, 0)) by rw [← hW2]; exact put8 ((HBW.out.block _ (blk_lt HQ.out.s)).trans HQ.out.s) _ _ _ _ _ _ _ _)
          have HB2 := Aside0.mk (show Below w.heap.size w W2 by rw [← hW2]; exact below_put8 (HQ.out.b.trans (HBW.out.mono HPL.out)) _ (by omega) _ _ _ _ _ _ _ _)
          have HC02 := Aside0.mk (show Kd.C (Kd.int .u8) W2 C0 Y.data.length Y.data from C8_keep ((HBW.out.block _ (blk_lt HQ.out.s)).trans HQ.out.s) (noRow8 _ _ _ _ _ _ _ _ _ _ _ _) HK2.out HC0.out.2)
          have HC12 := Aside0.mk (show Kd.C k28 W2 C1 Y.fields.length Y.fields from CF_keep ((HBW.out.block _ (blk_lt HQ.out.s)).trans HQ.out.s) (noRow8 _ _ _ _ _ _ _ _ _ _ _ _) HK2.out HC1.out.2)
          rw [hW2]
          clear hW2 s0 s1 s2 s3 s4 s5 s6 s7 xx0 xx1 xx2 xx3 xx4 xx5 xx6 xx7 sf0 sf1 sf2 sf3 sf4 sf5 sf6 sf7 g0 gf0 g1 gf1 g2 gf2 g3 gf3 g4 gf4 g5 gf5 g6 gf6 g7 gf7 g8 gf8 g9 gf9
          have hg2 : W2.heap[w.heap.size + 1]? = some (.cells #[Value.int .i64 0, Value.int .u64 0, Value.int .i64 0, Value.int .i64 0, Value.int .i64 0, Value.string ⟨#[]⟩, Value.slice none 0 0, Value.slice none 0 0, Value.int .i64 0, Value.int .i64 0] 84 (0, 0)) := (HK2.out _ (by omega)).trans HG1.out
          have HG2 := Aside0.mk hg2
          have hs2 := HS2.out
          have s0 : W2.cell? ⟨w.heap.size + 1 + 1, 0, none⟩ = some (Value.int .i64 (Y.place : Int)) := (blk_cell hs2 0).trans rfl
          have s1 : W2.cell? ⟨w.heap.size + 1 + 1, 1, none⟩ = some (Value.int .u64 (Y.n : Int)) := (blk_cell hs2 1).trans rfl
          have s2 : W2.cell? ⟨w.heap.size + 1 + 1, 2, none⟩ = some (Value.int .i64 (Y.count : Int)) := (blk_cell hs2 2).trans rfl
          have s3 : W2.cell? ⟨w.heap.size + 1 + 1, 3, none⟩ = some (Value.int .i64 (Y.lines : Int)) := (blk_cell hs2 3).trans rfl
          have s4 : W2.cell? ⟨w.heap.size + 1 + 1, 4, none⟩ = some (Value.int .i64 (Y.size : Int)) := (blk_cell hs2 4).trans rfl
          have s5 : W2.cell? ⟨w.heap.size + 1 + 1, 5, none⟩ = some (Value.string (strOfNums Y.text)) := (blk_cell hs2 5).trans rfl
          have s6 : W2.cell? ⟨w.heap.size + 1 + 1, 6, none⟩ = some (Value.slice C0 Y.data.length i0) := (blk_cell hs2 6).trans rfl
          have s7 : W2.cell? ⟨w.heap.size + 1 + 1, 7, none⟩ = some (Value.slice C1 Y.fields.length i1) := (blk_cell hs2 7).trans rfl
          clear hs2
          have hgt : w.heap.size + 1 + 1 < W2.heap.size := blk_lt HS2.out
          have HK1 := Aside0.mk hk1
          by_cases hp11 : Y.place = 11
          · have hpe : ((Y.place : Int) == 11) = true := by rw [beq_iff_eq]; omega
            have g0 : W2.cell? ⟨w.heap.size + 1, 0, none⟩ = some (Value.int .i64 0) := (blk_cell hg2 0).trans rfl
            have gf0 := blk_frozen hg2 0
            have g1 : W2.cell? ⟨w.heap.size + 1, 1, none⟩ = some (Value.int .u64 0) := (blk_cell hg2 1).trans rfl
            have gf1 := blk_frozen hg2 1
            have g2 : W2.cell? ⟨w.heap.size + 1, 2, none⟩ = some (Value.int .i64 0) := (blk_cell hg2 2).trans rfl
            have gf2 := blk_frozen hg2 2
            have g3 : W2.cell? ⟨w.heap.size + 1, 3, none⟩ = some (Value.int .i64 0) := (blk_cell hg2 3).trans rfl
            have gf3 := blk_frozen hg2 3
            have g4 : W2.cell? ⟨w.heap.size + 1, 4, none⟩ = some (Value.int .i64 0) := (blk_cell hg2 4).trans rfl
            have gf4 := blk_frozen hg2 4
            have g5 : W2.cell? ⟨w.heap.size + 1, 5, none⟩ = some (Value.string ⟨#[]⟩) := (blk_cell hg2 5).trans rfl
            have gf5 := blk_frozen hg2 5
            have g6 : W2.cell? ⟨w.heap.size + 1, 6, none⟩ = some (Value.slice none 0 0) := (blk_cell hg2 6).trans rfl
            have gf6 := blk_frozen hg2 6
            have g7 : W2.cell? ⟨w.heap.size + 1, 7, none⟩ = some (Value.slice none 0 0) := (blk_cell hg2 7).trans rfl
            have gf7 := blk_frozen hg2 7
            have g8 : W2.cell? ⟨w.heap.size + 1, 8, none⟩ = some (Value.int .i64 0) := (blk_cell hg2 8).trans rfl
            have gf8 := blk_frozen hg2 8
            have g9 : W2.cell? ⟨w.heap.size + 1, 9, none⟩ = some (Value.int .i64 0) := (blk_cell hg2 9).trans rfl
            have gf9 := blk_frozen hg2 9
            clear hg2 hk1
            go_wp2
            refine bodyPost_ret (results_cell_row rfl _ _ (w.heap.size + 1) 84 _ (0, 0) _ rfl (put10 HG2.out _ _ _ _ _ _ _ _ _ _) Tryz.underlying84 rfl (by kernel_rfl)) rfl ⟨Y, k1, 0, C0, C1, i0, i1, by unfold gotV; rw [hp11]; rfl, ?_, HC0.out.1, HC1.out.1, ?_, ?_, ?_, HFQ.out⟩
            · rw [HM.out, HDR.out, ← HK1.out]
              exact run_fin HOK.out hp11
            · exact C8_keep HG2.out (noRow10 0 0 0 0 0 0 0 _ none none 0 0 0 0) (fun q hq => far10 _ _ _ _ _ _ _ _ _ _ _ _ q hq) HC02.out
            · exact CF_keep HG2.out (noRow10 0 0 0 0 0 0 0 _ none none 0 0 0 0) (fun q hq => far10 _ _ _ _ _ _ _ _ _ _ _ _ q hq) HC12.out
            · exact below_put10 HB2.out _ (by omega) _ _ _ _ _ _ _ _ _ _
          · have hpe : ((Y.place : Int) == 11) = false := by rw [beq_eq_false_iff_ne]; omega
            clear hg2 hk1
            go_wp2
            go_roundw
            case rel =>
              have hk1 := HK1.out
              refine ⟨k1, Y, C0, C1, i0, i1, rfl, by omega, hp11, ⟨by rw [← hk1]; exact invN_step HI.out HCB.out HOK.out⟩, ⟨by rw [HM.out, HDR.out, ← hk1]; exact run_on HOK.out hp11⟩, ⟨⟨(HK2.out _ (by omega)).trans ((HBW.out.block _ (blk_lt HQ.out.l)).trans HQ.out.l), HG2.out, HS2.out, HC02.out, HC12.out, HC0.out.1, HC1.out.1, HB2.out, HFQ.out⟩⟩⟩
            case measure =>
              have hk1 := HK1.out
              simp [intOf]
              omega
        · have hne : (er != 0) = true := by rw [bne_iff_ne]; exact he
          have HERR := Aside0.mk herr
          clear herr
          go_wp2
          refine bodyPost_ret (results_cell_row rfl _ _ (w.heap.size + 1) 84 _ (0, 0) _ rfl (put10 HG1.out _ _ _ _ _ _ _ _ _ _) Tryz.underlying84 rfl (by kernel_rfl)) rfl ⟨X, k, er, B0, B1, j0, j1, rfl, ?_, HQ.out.h0, HQ.out.h1, ?_, ?_, ?_, HQ.out.fr⟩
          · rw [HM.out, HDR.out]
            exact run_err HERR.out
          · exact C8_keep HG1.out (noRow10 0 0 0 0 0 0 0 _ none none 0 0 0 0) (fun q hq => far10 _ _ _ _ _ _ _ _ _ _ _ _ q hq) (Kd.C_below HQ.out.r0 HBW.out)
          · exact CF_keep HG1.out (noRow10 0 0 0 0 0 0 0 _ none none 0 0 0 0) (fun q hq => far10 _ _ _ _ _ _ _ _ _ _ _ _ q hq) (Kd.C_below HQ.out.r1 HBW.out)
          · exact below_put10 (HQ.out.b.trans (HBW.out.mono HPL.out)) _ (by omega) _ _ _ _ _ _ _ _ _ _
    · have hkl : k = s.length := by omega
      have HKL := Aside0.mk hkl
      have hlt' : ¬ (k : Int) < (s.length : Int) := by omega
      have hwl : w.heap.size + 1 + 1 < wr.heap.size := blk_lt HQ.out.s
      have HG1 := Aside0.mk HQ.out.g
      have hg1 := HQ.out.g
      have hs2 := HQ.out.s
      have g0 : wr.cell? ⟨w.heap.size + 1, 0, none⟩ = some (Value.int .i64 0) := (blk_cell hg1 0).trans rfl
      have gf0 := blk_frozen hg1 0
      have g1 : wr.cell? ⟨w.heap.size + 1, 1, none⟩ = some (Value.int .u64 0) := (blk_cell hg1 1).trans rfl
      have gf1 := blk_frozen hg1 1
      have g2 : wr.cell? ⟨w.heap.size + 1, 2, none⟩ = some (Value.int .i64 0) := (blk_cell hg1 2).trans rfl
      have gf2 := blk_frozen hg1 2
      have g3 : wr.cell? ⟨w.heap.size + 1, 3, none⟩ = some (Value.int .i64 0) := (blk_cell hg1 3).trans rfl
      have gf3 := blk_frozen hg1 3
      have g4 : wr.cell? ⟨w.heap.size + 1, 4, none⟩ = some (Value.int .i64 0) := (blk_cell hg1 4).trans rfl
      have gf4 := blk_frozen hg1 4
      have g5 : wr.cell? ⟨w.heap.size + 1, 5, none⟩ = some (Value.string ⟨#[]⟩) := (blk_cell hg1 5).trans rfl
      have gf5 := blk_frozen hg1 5
      have g6 : wr.cell? ⟨w.heap.size + 1, 6, none⟩ = some (Value.slice none 0 0) := (blk_cell hg1 6).trans rfl
      have gf6 := blk_frozen hg1 6
      have g7 : wr.cell? ⟨w.heap.size + 1, 7, none⟩ = some (Value.slice none 0 0) := (blk_cell hg1 7).trans rfl
      have gf7 := blk_frozen hg1 7
      have g8 : wr.cell? ⟨w.heap.size + 1, 8, none⟩ = some (Value.int .i64 0) := (blk_cell hg1 8).trans rfl
      have gf8 := blk_frozen hg1 8
      have g9 : wr.cell? ⟨w.heap.size + 1, 9, none⟩ = some (Value.int .i64 0) := (blk_cell hg1 9).trans rfl
      have gf9 := blk_frozen hg1 9
      have s0 : wr.cell? ⟨w.heap.size + 1 + 1, 0, none⟩ = some (Value.int .i64 (X.place : Int)) := (blk_cell hs2 0).trans rfl
      have s1 : wr.cell? ⟨w.heap.size + 1 + 1, 1, none⟩ = some (Value.int .u64 (X.n : Int)) := (blk_cell hs2 1).trans rfl
      have s2 : wr.cell? ⟨w.heap.size + 1 + 1, 2, none⟩ = some (Value.int .i64 (X.count : Int)) := (blk_cell hs2 2).trans rfl
      have s3 : wr.cell? ⟨w.heap.size + 1 + 1, 3, none⟩ = some (Value.int .i64 (X.lines : Int)) := (blk_cell hs2 3).trans rfl
      have s4 : wr.cell? ⟨w.heap.size + 1 + 1, 4, none⟩ = some (Value.int .i64 (X.size : Int)) := (blk_cell hs2 4).trans rfl
      have s5 : wr.cell? ⟨w.heap.size + 1 + 1, 5, none⟩ = some (Value.string (strOfNums X.text)) := (blk_cell hs2 5).trans rfl
      have s6 : wr.cell? ⟨w.heap.size + 1 + 1, 6, none⟩ = some (Value.slice B0 X.data.length j0) := (blk_cell hs2 6).trans rfl
      have s7 : wr.cell? ⟨w.heap.size + 1 + 1, 7, none⟩ = some (Value.slice B1 X.fields.length j1) := (blk_cell hs2 7).trans rfl
      clear hg1 hs2 hkl
      go_wp2
      refine bodyPost_ret (results_cell_row rfl _ _ (w.heap.size + 1) 84 _ (0, 0) _ rfl (put10 HG1.out _ _ _ _ _ _ _ _ _ _) Tryz.underlying84 rfl (by kernel_rfl)) rfl ⟨X, s.length, 4, B0, B1, j0, j1, rfl, ?_, HQ.out.h0, HQ.out.h1, ?_, ?_, ?_, HQ.out.fr⟩
      · rw [HM.out, HKL.out, List.drop_length]
        rfl
      · exact C8_keep HG1.out (noRow10 0 0 0 0 0 0 0 _ none none 0 0 0 0) (fun q hq => far10 _ _ _ _ _ _ _ _ _ _ _ _ q hq) HQ.out.r0
      · exact CF_keep HG1.out (noRow10 0 0 0 0 0 0 0 _ none none 0 0 0 0) (fun q hq => far10 _ _ _ _ _ _ _ _ _ _ _ _ q hq) HQ.out.r1
      · exact below_put10 HQ.out.b _ (by omega) _ _ _ _ _ _ _ _ _ _
theorem scan8_calls (A : Option Addr) (c : Nat) (s : List Int) (e0 e1 e2 : Nat) (w : World) (hr : Kd.C (Kd.int .u8) w A s.length s) (hc : s.length ≤ c) (hG : TabOk w) (hs : ByteL s) (hl : s.length ≤ 100000) :
    Calls Tryz.prog 29 #[.slice A s.length c, .agg #[Value.int .i64 (e0 : Int), Value.int .i64 (e1 : Int), Value.int .i64 (e2 : Int)]] w fun e w' => ∃ (X : MSt Fld) (at_ : Nat) (er : Int) (B0 B1 : Option Addr) (j0 j1 : Nat), e = .returned (gotV X (.slice B0 X.data.length j0) (.slice B1 X.fields.length j1) at_ er) ∧ mrun (envM e0 e1 e2) minit s 0 = (X, at_, er) ∧ X.data.length ≤ j0 ∧ X.fields.length ≤ j1 ∧ Kd.C (Kd.int .u8) w' B0 X.data.length X.data ∧ Kd.C k28 w' B1 X.fields.length X.fields ∧ Below w.heap.size w w' :=
  (scan8_fresh A c s e0 e1 e2 w hr hc hG hs hl).mono fun _ _ ⟨X, a, er, B0, B1, j0, j1, h1, h2, h3, h4, h5, h6, h7, _⟩ => ⟨X, a, er, B0, B1, j0, j1, h1, h2, h3, h4, h5, h6, h7⟩
end Go.Proofs.YtmmbpbgcobmifaaGreatDoorH
end
section
namespace Go.Proofs.YtmmbpbgcobmifaaGreatDoor.Pr
open Go.RowKit Go.Proofs.YtmmbpbgcobmifaaGreatDoorH Go.Proofs.YtmmbpbgcobmifaaGreatDoorW.PrintWords Go.Proofs.YtmmbpbgcobmifaaGreatDoorW.PrintLast Go.Proofs.YtmmbpbgcobmifaaGreatDoorW.PrintMore
attribute [local go_sem] max2_int min2_int max_two min_two max_three min_three max_four min_four   -- for this text's walks alone
set_option linter.unusedVariables false
set_option linter.unusedSimpArgs false
def intake_Right.f (a0_0 : Int) (a0_1 : Int) : Option (Bool) := if a0_0 ≥ 0 then (if a0_0 ≤ 3 then (if a0_1 ≤ 4611686018427387903 then (if a0_0 = 1 then (some true) else (some (a0_1 == 0))) else (some false)) else (some false)) else (some false)
set_option maxHeartbeats 8000000 in
set_option maxRecDepth 100000 in
theorem intake_Right.calls (a0_0 : Int) (a0_1 : Int) (r : Bool) (w : World) (hG : TabOk w) (h : intake_Right.f a0_0 a0_1 = some r) :
    Calls Tryz.prog 27 #[.agg #[.int .i64 a0_0, .int .u64 a0_1]] w fun e w' => e = .returned (.bool r) ∧ Below w.heap.size w w' := by
  have hu36 := Tryz.underlying36
  have HB := Aside0.mk (Below.refl w.heap.size w)
  have H : (if a0_0 ≥ 0 then (if a0_0 ≤ 3 then (if a0_1 ≤ 4611686018427387903 then (if a0_0 = 1 then (some true) else (some (a0_1 == 0))) else (some false)) else (some false)) else (some false)) = some r := h
  clear h
  by_cases c2 : a0_0 ≥ 0
  · rw [if_pos c2] at H
    have c2b0 : decide (0 ≤ a0_0) = true := decide_eq_true c2
    clear c2
    by_cases c3 : a0_0 ≤ 3
    · rw [if_pos c3] at H
      have c3b0 : decide (a0_0 ≤ 3) = true := decide_eq_true c3
      clear c3
      by_cases c4 : a0_1 ≤ 4611686018427387903
      · rw [if_pos c4] at H
        have c4b0 : decide (a0_1 ≤ 4611686018427387903) = true := decide_eq_true c4
        clear c4
        by_cases c5 : a0_0 = 1
        · rw [if_pos c5] at H
          have c5b0 : (a0_0 == 1) = true := beq_iff_eq.mpr c5
          have c5b1 : (a0_0 != 1) = false := bne_eq_false_iff_eq.mpr c5
          clear c5
          obtain rfl := Option.some.inj H
          go_enter Tryz.func27, Tryz.ntmps27
          go_wp2_with (first | ((with_reducible refine gate_dst (N := 1) rfl ?_); refine box_event ?hg (N := 1) ?hd (cs := #[.int .i64 a0_0, .int .u64 a0_1]) (t := 36) ?hr ?_; (case hd => rfl); (case hg => rfl); (case hr => first | (go_simp; done) | (go_simp; rfl)); intro gb154 hg w6 hbox hb; have n0_ := Aside0.mk (below_step (by repeat (first | (with_reducible first | exact HB.out | apply below_alloc | apply pw_below_drewN | apply below_drew1) | exact HB.out)) hb); have n1_ := Aside0.mk (hbox); have n2_ := Aside0.mk ((by rw [hg]; exact (below_size (by repeat (first | (with_reducible first | exact HB.out | apply below_alloc | apply pw_below_drewN | apply below_drew1) | exact HB.out))) : w.heap.size ≤ gb154)); have n3_ := Aside0.mk ((by rw [hg]; exact (below_size (by repeat (first | (with_reducible first | exact HB.out | apply below_alloc | apply pw_below_drewN | apply below_drew1) | exact HB.out))) : w.heap.size ≤ gb154)); clear HB; have HB := n0_; have BK154 := n1_; have GW154 := n2_; have GE154 := n3_; clear n0_ n1_ n2_ n3_; clear hb hbox hg; have hcz7_0 : w6.cell? ⟨gb154, 0, none⟩ = some (.int .i64 a0_0) := (blk_cell BK154.out 0).trans rfl; have hcz7_1 : w6.cell? ⟨gb154, 1, none⟩ = some (.int .u64 a0_1) := (blk_cell BK154.out 1).trans rfl; have hfz7_0 := blk_frozen BK154.out 0; have hfz7_1 := blk_frozen BK154.out 1))
          go_ret
          exact ⟨by first | rfl | (simp [errW_none, errW_some] <;> rfl) | (simp [*, errW_none, errW_some] <;> rfl), by repeat (first | (with_reducible first | exact HB.out | apply below_alloc | apply pw_below_drewN | apply below_drew1 | refine below_set ?_ GE154.out) | exact HB.out)⟩
        · rw [if_neg c5] at H
          have c5b0 : (a0_0 == 1) = false := beq_eq_false_iff_ne.mpr c5
          have c5b1 : (a0_0 != 1) = true := bne_iff_ne.mpr c5
          obtain rfl := Option.some.inj H
          go_enter Tryz.func27, Tryz.ntmps27
          go_wp2_with (first | ((with_reducible refine gate_dst (N := 1) rfl ?_); refine box_event ?hg (N := 1) ?hd (cs := #[.int .i64 a0_0, .int .u64 a0_1]) (t := 36) ?hr ?_; (case hd => rfl); (case hg => rfl); (case hr => first | (go_simp; done) | (go_simp; rfl)); intro gb154 hg w8 hbox hb; have n0_ := Aside0.mk (below_step (by repeat (first | (with_reducible first | exact HB.out | apply below_alloc | apply pw_below_drewN | apply below_drew1) | exact HB.out)) hb); have n1_ := Aside0.mk (hbox); have n2_ := Aside0.mk ((by rw [hg]; exact (below_size (by repeat (first | (with_reducible first | exact HB.out | apply below_alloc | apply pw_below_drewN | apply below_drew1) | exact HB.out))) : w.heap.size ≤ gb154)); have n3_ := Aside0.mk ((by rw [hg]; exact (below_size (by repeat (first | (with_reducible first | exact HB.out | apply below_alloc | apply pw_below_drewN | apply below_drew1) | exact HB.out))) : w.heap.size ≤ gb154)); clear HB; have HB := n0_; have BK154 := n1_; have GW154 := n2_; have GE154 := n3_; clear n0_ n1_ n2_ n3_; clear hb hbox hg; have hcz9_0 : w8.cell? ⟨gb154, 0, none⟩ = some (.int .i64 a0_0) := (blk_cell BK154.out 0).trans rfl; have hcz9_1 : w8.cell? ⟨gb154, 1, none⟩ = some (.int .u64 a0_1) := (blk_cell BK154.out 1).trans rfl; have hfz9_0 := blk_frozen BK154.out 0; have hfz9_1 := blk_frozen BK154.out 1))
          go_ret
          exact ⟨by first | rfl | (simp [errW_none, errW_some] <;> rfl) | (simp [*, errW_none, errW_some] <;> rfl), by repeat (first | (with_reducible first | exact HB.out | apply below_alloc | apply pw_below_drewN | apply below_drew1 | refine below_set ?_ GE154.out) | exact HB.out)⟩
      · rw [if_neg c4] at H
        have c4b0 : decide (a0_1 ≤ 4611686018427387903) = false := decide_eq_false c4
        clear c4
        obtain rfl := Option.some.inj H
        go_enter Tryz.func27, Tryz.ntmps27
        go_wp2_with (first | ((with_reducible refine gate_dst (N := 1) rfl ?_); refine box_event ?hg (N := 1) ?hd (cs := #[.int .i64 a0_0, .int .u64 a0_1]) (t := 36) ?hr ?_; (case hd => rfl); (case hg => rfl); (case hr => first | (go_simp; done) | (go_simp; rfl)); intro gb154 hg w10 hbox hb; have n0_ := Aside0.mk (below_step (by repeat (first | (with_reducible first | exact HB.out | apply below_alloc | apply pw_below_drewN | apply below_drew1) | exact HB.out)) hb); have n1_ := Aside0.mk (hbox); have n2_ := Aside0.mk ((by rw [hg]; exact (below_size (by repeat (first | (with_reducible first | exact HB.out | apply below_alloc | apply pw_below_drewN | apply below_drew1) | exact HB.out))) : w.heap.size ≤ gb154)); have n3_ := Aside0.mk ((by rw [hg]; exact (below_size (by repeat (first | (with_reducible first | exact HB.out | apply below_alloc | apply pw_below_drewN | apply below_drew1) | exact HB.out))) : w.heap.size ≤ gb154)); clear HB; have HB := n0_; have BK154 := n1_; have GW154 := n2_; have GE154 := n3_; clear n0_ n1_ n2_ n3_; clear hb hbox hg; have hcz11_0 : w10.cell? ⟨gb154, 0, none⟩ = some (.int .i64 a0_0) := (blk_cell BK154.out 0).trans rfl; have hcz11_1 : w10.cell? ⟨gb154, 1, none⟩ = some (.int .u64 a0_1) := (blk_cell BK154.out 1).trans rfl; have hfz11_0 := blk_frozen BK154.out 0; have hfz11_1 := blk_frozen BK154.out 1))
        go_ret
        exact ⟨by first | rfl | (simp [errW_none, errW_some] <;> rfl) | (simp [*, errW_none, errW_some] <;> rfl), by repeat (first | (with_reducible first | exact HB.out | apply below_alloc | apply pw_below_drewN | apply below_drew1 | refine below_set ?_ GE154.out) | exact HB.out)⟩
    · rw [if_neg c3] at H
      have c3b0 : decide (a0_0 ≤ 3) = false := decide_eq_false c3
      clear c3
      obtain rfl := Option.some.inj H
      go_enter Tryz.func27, Tryz.ntmps27
      go_wp2_with (first | ((with_reducible refine gate_dst (N := 1) rfl ?_); refine box_event ?hg (N := 1) ?hd (cs := #[.int .i64 a0_0, .int .u64 a0_1]) (t := 36) ?hr ?_; (case hd => rfl); (case hg => rfl); (case hr => first | (go_simp; done) | (go_simp; rfl)); intro gb154 hg w12 hbox hb; have n0_ := Aside0.mk (below_step (by repeat (first | (with_reducible first | exact HB.out | apply below_alloc | apply pw_below_drewN | apply below_drew1) | exact HB.out)) hb); have n1_ := Aside0.mk (hbox); have n2_ := Aside0.mk ((by rw [hg]; exact (below_size (by repeat (first | (with_reducible first | exact HB.out | apply below_alloc | apply pw_below_drewN | apply below_drew1) | exact HB.out))) : w.heap.size ≤ gb154)); have n3_ := Aside0.mk ((by rw [hg]; exact (below_size (by repeat (first | (with_reducible first | exact HB.out | apply below_alloc | apply pw_below_drewN | apply below_drew1) | exact HB.out))) : w.heap.size ≤ gb154)); clear HB; have HB := n0_; have BK154 := n1_; have GW154 := n2_; have GE154 := n3_; clear n0_ n1_ n2_ n3_; clear hb hbox hg; have hcz13_0 : w12.cell? ⟨gb154, 0, none⟩ = some (.int .i64 a0_0) := (blk_cell BK154.out 0).trans rfl; have hcz13_1 : w12.cell? ⟨gb154, 1, none⟩ = some (.int .u64 a0_1) := (blk_cell BK154.out 1).trans rfl; have hfz13_0 := blk_frozen BK154.out 0; have hfz13_1 := blk_frozen BK154.out 1))
      go_ret
      exact ⟨by first | rfl | (simp [errW_none, errW_some] <;> rfl) | (simp [*, errW_none, errW_some] <;> rfl), by repeat (first | (with_reducible first | exact HB.out | apply below_alloc | apply pw_below_drewN | apply below_drew1 | refine below_set ?_ GE154.out) | exact HB.out)⟩
  · rw [if_neg c2] at H
    have c2b0 : decide (0 ≤ a0_0) = false := decide_eq_false c2
    clear c2
    obtain rfl := Option.some.inj H
    go_enter Tryz.func27, Tryz.ntmps27
    go_wp2_with (first | ((with_reducible refine gate_dst (N := 1) rfl ?_); refine box_event ?hg (N := 1) ?hd (cs := #[.int .i64 a0_0, .int .u64 a0_1]) (t := 36) ?hr ?_; (case hd => rfl); (case hg => rfl); (case hr => first | (go_simp; done) | (go_simp; rfl)); intro gb154 hg w14 hbox hb; have n0_ := Aside0.mk (below_step (by repeat (first | (with_reducible first | exact HB.out | apply below_alloc | apply pw_below_drewN | apply below_drew1) | exact HB.out)) hb); have n1_ := Aside0.mk (hbox); have n2_ := Aside0.mk ((by rw [hg]; exact (below_size (by repeat (first | (with_reducible first | exact HB.out | apply below_alloc | apply pw_below_drewN | apply below_drew1) | exact HB.out))) : w.heap.size ≤ gb154)); have n3_ := Aside0.mk ((by rw [hg]; exact (below_size (by repeat (first | (with_reducible first | exact HB.out | apply below_alloc | apply pw_below_drewN | apply below_drew1) | exact HB.out))) : w.heap.size ≤ gb154)); clear HB; have HB := n0_; have BK154 := n1_; have GW154 := n2_; have GE154 := n3_; clear n0_ n1_ n2_ n3_; clear hb hbox hg; have hcz15_0 : w14.cell? ⟨gb154, 0, none⟩ = some (.int .i64 a0_0) := (blk_cell BK154.out 0).trans rfl; have hcz15_1 : w14.cell? ⟨gb154, 1, none⟩ = some (.int .u64 a0_1) := (blk_cell BK154.out 1).trans rfl; have hfz15_0 := blk_frozen BK154.out 0; have hfz15_1 := blk_frozen BK154.out 1))
    go_ret
    exact ⟨by first | rfl | (simp [errW_none, errW_some] <;> rfl) | (simp [*, errW_none, errW_some] <;> rfl), by repeat (first | (with_reducible first | exact HB.out | apply below_alloc | apply pw_below_drewN | apply below_drew1 | refine below_set ?_ GE154.out) | exact HB.out)⟩
end Go.Proofs.YtmmbpbgcobmifaaGreatDoor.Pr
end
section
namespace Go.Proofs.YtmmbpbgcobmifaaGreatDoor.Pr
open Go.RowKit Go.Proofs.YtmmbpbgcobmifaaGreatDoorH Go.Proofs.YtmmbpbgcobmifaaGreatDoorW.PrintWords Go.Proofs.YtmmbpbgcobmifaaGreatDoorW.PrintLast Go.Proofs.YtmmbpbgcobmifaaGreatDoorW.PrintMore
attribute [local go_sem] max2_int min2_int max_two min_two max_three min_three max_four min_four   -- for this text's walks alone
set_option linter.unusedVariables false
set_option linter.unusedSimpArgs false
def catchpitref12_Right.f (a0_0 : Int) (a0_1 : Int) : Option (Bool) := if a0_0 < 0 then (some false) else (if a0_0 > 3 then (some false) else (if a0_1 > 4611686018427387903 then (some false) else (if a0_0 = 1 then (some true) else (some (a0_1 == 0)))))
set_option maxHeartbeats 8000000 in
set_option maxRecDepth 100000 in
theorem catchpitref12_Right.calls (a0_0 : Int) (a0_1 : Int) (r : Bool) (w : World) (hG : TabOk w) (h : catchpitref12_Right.f a0_0 a0_1 = some r) :
    Calls Tryz.prog 28 #[.agg #[.int .i64 a0_0, .int .u64 a0_1]] w fun e w' => e = .returned (.bool r) ∧ Below w.heap.size w w' := by
  have hu36 := Tryz.underlying36
  have HB := Aside0.mk (Below.refl w.heap.size w)
  have H : (if a0_0 < 0 then (some false) else (if a0_0 > 3 then (some false) else (if a0_1 > 4611686018427387903 then (some false) else (if a0_0 = 1 then (some true) else (some (a0_1 == 0)))))) = some r := h
  clear h
  by_cases c2 : a0_0 < 0
  · rw [if_pos c2] at H
    have c2b0 : decide (a0_0 < 0) = true := decide_eq_true c2
    clear c2
    obtain rfl := Option.some.inj H
    go_enter Tryz.func28, Tryz.ntmps28
    go_wp2_with (first | ((with_reducible refine gate_dst (N := 1) rfl ?_); refine box_event ?hg (N := 1) ?hd (cs := #[.int .i64 a0_0, .int .u64 a0_1]) (t := 36) ?hr ?_; (case hd => rfl); (case hg => rfl); (case hr => first | (go_simp; done) | (go_simp; rfl)); intro gb157 hg w3 hbox hb; have n0_ := Aside0.mk (below_step (by repeat (first | (with_reducible first | exact HB.out | apply below_alloc | apply pw_below_drewN | apply below_drew1) | exact HB.out)) hb); have n1_ := Aside0.mk (hbox); have n2_ := Aside0.mk ((by rw [hg]; exact (below_size (by repeat (first | (with_reducible first | exact HB.out | apply below_alloc | apply pw_below_drewN | apply below_drew1) | exact HB.out))) : w.heap.size ≤ gb157)); have n3_ := Aside0.mk ((by rw [hg]; exact (below_size (by repeat (first | (with_reducible first | exact HB.out | apply below_alloc | apply pw_below_drewN | apply below_drew1) | exact HB.out))) : w.heap.size ≤ gb157)); clear HB; have HB := n0_; have BK157 := n1_; have GW157 := n2_; have GE157 := n3_; clear n0_ n1_ n2_ n3_; clear hb hbox hg; have hcz4_0 : w3.cell? ⟨gb157, 0, none⟩ = some (.int .i64 a0_0) := (blk_cell BK157.out 0).trans rfl; have hcz4_1 : w3.cell? ⟨gb157, 1, none⟩ = some (.int .u64 a0_1) := (blk_cell BK157.out 1).trans rfl; have hfz4_0 := blk_frozen BK157.out 0; have hfz4_1 := blk_frozen BK157.out 1))
    go_ret
    exact ⟨by first | rfl | (simp [errW_none, errW_some] <;> rfl) | (simp [*, errW_none, errW_some] <;> rfl), by repeat (first | (with_reducible first | exact HB.out | apply below_alloc | apply pw_below_drewN | apply below_drew1 | refine below_set ?_ GE157.out) | exact HB.out)⟩
  · rw [if_neg c2] at H
    have c2b0 : decide (a0_0 < 0) = false := decide_eq_false c2
    clear c2
    by_cases c5 : a0_0 > 3
    · rw [if_pos c5] at H
      have c5b0 : decide (3 < a0_0) = true := decide_eq_true c5
      clear c5
      obtain rfl := Option.some.inj H
      go_enter Tryz.func28, Tryz.ntmps28
      go_wp2_with (first | ((with_reducible refine gate_dst (N := 1) rfl ?_); refine box_event ?hg (N := 1) ?hd (cs := #[.int .i64 a0_0, .int .u64 a0_1]) (t := 36) ?hr ?_; (case hd => rfl); (case hg => rfl); (case hr => first | (go_simp; done) | (go_simp; rfl)); intro gb157 hg w6 hbox hb; have n0_ := Aside0.mk (below_step (by repeat (first | (with_reducible first | exact HB.out | apply below_alloc | apply pw_below_drewN | apply below_drew1) | exact HB.out)) hb); have n1_ := Aside0.mk (hbox); have n2_ := Aside0.mk ((by rw [hg]; exact (below_size (by repeat (first | (with_reducible first | exact HB.out | apply below_alloc | apply pw_below_drewN | apply below_drew1) | exact HB.out))) : w.heap.size ≤ gb157)); have n3_ := Aside0.mk ((by rw [hg]; exact (below_size (by repeat (first | (with_reducible first | exact HB.out | apply below_alloc | apply pw_below_drewN | apply below_drew1) | exact HB.out))) : w.heap.size ≤ gb157)); clear HB; have HB := n0_; have BK157 := n1_; have GW157 := n2_; have GE157 := n3_; clear n0_ n1_ n2_ n3_; clear hb hbox hg; have hcz7_0 : w6.cell? ⟨gb157, 0, none⟩ = some (.int .i64 a0_0) := (blk_cell BK157.out 0).trans rfl; have hcz7_1 : w6.cell? ⟨gb157, 1, none⟩ = some (.int .u64 a0_1) := (blk_cell BK157.out 1).trans rfl; have hfz7_0 := blk_frozen BK157.out 0; have hfz7_1 := blk_frozen BK157.out 1))
      go_ret
      exact ⟨by first | rfl | (simp [errW_none, errW_some] <;> rfl) | (simp [*, errW_none, errW_some] <;> rfl), by repeat (first | (with_reducible first | exact HB.out | apply below_alloc | apply pw_below_drewN | apply below_drew1 | refine below_set ?_ GE157.out) | exact HB.out)⟩
    · rw [if_neg c5] at H
      have c5b0 : decide (3 < a0_0) = false := decide_eq_false c5
      clear c5
      by_cases c8 : a0_1 > 4611686018427387903
      · rw [if_pos c8] at H
        have c8b0 : decide (4611686018427387903 < a0_1) = true := decide_eq_true c8
        clear c8
        obtain rfl := Option.some.inj H
        go_enter Tryz.func28, Tryz.ntmps28
        go_wp2_with (first | ((with_reducible refine gate_dst (N := 1) rfl ?_); refine box_event ?hg (N := 1) ?hd (cs := #[.int .i64 a0_0, .int .u64 a0_1]) (t := 36) ?hr ?_; (case hd => rfl); (case hg => rfl); (case hr => first | (go_simp; done) | (go_simp; rfl)); intro gb157 hg w9 hbox hb; have n0_ := Aside0.mk (below_step (by repeat (first | (with_reducible first | exact HB.out | apply below_alloc | apply pw_below_drewN | apply below_drew1) | exact HB.out)) hb); have n1_ := Aside0.mk (hbox); have n2_ := Aside0.mk ((by rw [hg]; exact (below_size (by repeat (first | (with_reducible first | exact HB.out | apply below_alloc | apply pw_below_drewN | apply below_drew1) | exact HB.out))) : w.heap.size ≤ gb157)); have n3_ := Aside0.mk ((by rw [hg]; exact (below_size (by repeat (first | (with_reducible first | exact HB.out | apply below_alloc | apply pw_below_drewN | apply below_drew1) | exact HB.out))) : w.heap.size ≤ gb157)); clear HB; have HB := n0_; have BK157 := n1_; have GW157 := n2_; have GE157 := n3_; clear n0_ n1_ n2_ n3_; clear hb hbox hg; have hcz10_0 : w9.cell? ⟨gb157, 0, none⟩ = some (.int .i64 a0_0) := (blk_cell BK157.out 0).trans rfl; have hcz10_1 : w9.cell? ⟨gb157, 1, none⟩ = some (.int .u64 a0_1) := (blk_cell BK157.out 1).trans rfl; have hfz10_0 := blk_frozen BK157.out 0; have hfz10_1 := blk_frozen BK157.out 1))
        go_ret
        exact ⟨by first | rfl | (simp [errW_none, errW_some] <;> rfl) | (simp [*, errW_none, errW_some] <;> rfl), by repeat (first | (with_reducible first | exact HB.out | apply below_alloc | apply pw_below_drewN | apply below_drew1 | refine below_set ?_ GE157.out) | exact HB.out)⟩
      · rw [if_neg c8] at H
        have c8b0 : decide (4611686018427387903 < a0_1) = false := decide_eq_false c8
        clear c8
        by_cases c11 : a0_0 = 1
        · rw [if_pos c11] at H
          have c11b0 : (a0_0 == 1) = true := beq_iff_eq.mpr c11
          have c11b1 : (a0_0 != 1) = false := bne_eq_false_iff_eq.mpr c11
          clear c11
          obtain rfl := Option.some.inj H
          go_enter Tryz.func28, Tryz.ntmps28
          go_wp2_with (first | ((with_reducible refine gate_dst (N := 1) rfl ?_); refine box_event ?hg (N := 1) ?hd (cs := #[.int .i64 a0_0, .int .u64 a0_1]) (t := 36) ?hr ?_; (case hd => rfl); (case hg => rfl); (case hr => first | (go_simp; done) | (go_simp; rfl)); intro gb157 hg w12 hbox hb; have n0_ := Aside0.mk (below_step (by repeat (first | (with_reducible first | exact HB.out | apply below_alloc | apply pw_below_drewN | apply below_drew1) | exact HB.out)) hb); have n1_ := Aside0.mk (hbox); have n2_ := Aside0.mk ((by rw [hg]; exact (below_size (by repeat (first | (with_reducible first | exact HB.out | apply below_alloc | apply pw_below_drewN | apply below_drew1) | exact HB.out))) : w.heap.size ≤ gb157)); have n3_ := Aside0.mk ((by rw [hg]; exact (below_size (by repeat (first | (with_reducible first | exact HB.out | apply below_alloc | apply pw_below_drewN | apply below_drew1) | exact HB.out))) : w.heap.size ≤ gb157)); clear HB; have HB := n0_; have BK157 := n1_; have GW157 := n2_; have GE157 := n3_; clear n0_ n1_ n2_ n3_; clear hb hbox hg; have hcz13_0 : w12.cell? ⟨gb157, 0, none⟩ = some (.int .i64 a0_0) := (blk_cell BK157.out 0).trans rfl; have hcz13_1 : w12.cell? ⟨gb157, 1, none⟩ = some (.int .u64 a0_1) := (blk_cell BK157.out 1).trans rfl; have hfz13_0 := blk_frozen BK157.out 0; have hfz13_1 := blk_frozen BK157.out 1))
          go_ret
          exact ⟨by first | rfl | (simp [errW_none, errW_some] <;> rfl) | (simp [*, errW_none, errW_some] <;> rfl), by repeat (first | (with_reducible first | exact HB.out | apply below_alloc | apply pw_below_drewN | apply below_drew1 | refine below_set ?_ GE157.out) | exact HB.out)⟩
        · rw [if_neg c11] at H
          have c11b0 : (a0_0 == 1) = false := beq_eq_false_iff_ne.mpr c11
          have c11b1 : (a0_0 != 1) = true := bne_iff_ne.mpr c11
          obtain rfl := Option.some.inj H
          go_enter Tryz.func28, Tryz.ntmps28
          go_wp2_with (first | ((with_reducible refine gate_dst (N := 1) rfl ?_); refine box_event ?hg (N := 1) ?hd (cs := #[.int .i64 a0_0, .int .u64 a0_1]) (t := 36) ?hr ?_; (case hd => rfl); (case hg => rfl); (case hr => first | (go_simp; done) | (go_simp; rfl)); intro gb157 hg w14 hbox hb; have n0_ := Aside0.mk (below_step (by repeat (first | (with_reducible first | exact HB.out | apply below_alloc | apply pw_below_drewN | apply below_drew1) | exact HB.out)) hb); have n1_ := Aside0.mk (hbox); have n2_ := Aside0.mk ((by rw [hg]; exact (below_size (by repeat (first | (with_reducible first | exact HB.out | apply below_alloc | apply pw_below_drewN | apply below_drew1) | exact HB.out))) : w.heap.size ≤ gb157)); have n3_ := Aside0.mk ((by rw [hg]; exact (below_size (by repeat (first | (with_reducible first | exact HB.out | apply below_alloc | apply pw_below_drewN | apply below_drew1) | exact HB.out))) : w.heap.size ≤ gb157)); clear HB; have HB := n0_; have BK157 := n1_; have GW157 := n2_; have GE157 := n3_; clear n0_ n1_ n2_ n3_; clear hb hbox hg; have hcz15_0 : w14.cell? ⟨gb157, 0, none⟩ = some (.int .i64 a0_0) := (blk_cell BK157.out 0).trans rfl; have hcz15_1 : w14.cell? ⟨gb157, 1, none⟩ = some (.int .u64 a0_1) := (blk_cell BK157.out 1).trans rfl; have hfz15_0 := blk_frozen BK157.out 0; have hfz15_1 := blk_frozen BK157.out 1))
          go_ret
          exact ⟨by first | rfl | (simp [errW_none, errW_some] <;> rfl) | (simp [*, errW_none, errW_some] <;> rfl), by repeat (first | (with_reducible first | exact HB.out | apply below_alloc | apply pw_below_drewN | apply below_drew1 | refine below_set ?_ GE157.out) | exact HB.out)⟩
end Go.Proofs.YtmmbpbgcobmifaaGreatDoor.Pr
end
