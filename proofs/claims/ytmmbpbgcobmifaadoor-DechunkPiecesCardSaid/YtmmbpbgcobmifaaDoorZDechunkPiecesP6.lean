import Derived.Test.YtmmbpbgcobmifaaDoorZDechunkPiecesP5
import Derived.Test.YtmmbpbgcobmifaaDoorZDechunkPiecesP3
import Derived.Test.YtmmbpbgcobmifaaDoorZDechunkPiecesP4
namespace Go.Proofs.YtmmbpbgcobmifaaDoorW.PrintWords
end Go.Proofs.YtmmbpbgcobmifaaDoorW.PrintWords
namespace Go.Proofs.YtmmbpbgcobmifaaDoorW.PrintLast
end Go.Proofs.YtmmbpbgcobmifaaDoorW.PrintLast
namespace Go.Proofs.YtmmbpbgcobmifaaDoorW.PrintMore
end Go.Proofs.YtmmbpbgcobmifaaDoorW.PrintMore
namespace Go.Proofs.YtmmbpbgcobmifaaDoor.Pr
end Go.Proofs.YtmmbpbgcobmifaaDoor.Pr
namespace Go.Proofs.YtmmbpbgcobmifaaDoorM
end Go.Proofs.YtmmbpbgcobmifaaDoorM
section
namespace Go.Proofs.YtmmbpbgcobmifaaDoor.Pr
end Go.Proofs.YtmmbpbgcobmifaaDoor.Pr
namespace Go.Proofs.YtmmbpbgcobmifaaDoorH
set_option linter.unusedVariables false
set_option linter.unusedSimpArgs false
open Go Go.RowKit Go.Proofs.YtmmbpbgcobmifaaDoorW.PrintWords Go.Proofs.YtmmbpbgcobmifaaDoorW.PrintLast Go.Proofs.YtmmbpbgcobmifaaDoorW.PrintMore Go.Proofs.YtmmbpbgcobmifaaDoor.Pr Go.Proofs.YtmmbpbgcobmifaaDoorM
set_option maxHeartbeats 4000000 in
set_option maxRecDepth 100000 in
theorem st8_9b (n co li sz : Int) (tx : ByteArray) (A0 A1 : Option Addr) (n0 n1 k0 k1 : Nat) (c l0 l1 l2 p3 sz3 er : Int) (tx3 : ByteArray) (w : World) (hG : TabOk w) (h3 : (c != 10) = false)
    (HL : ∀ W, Below w.heap.size w W → Calls Tryd.prog 65 #[stV 9 n co li sz tx (.slice A0 n0 k0) (.slice A1 n1 k1), .int .u8 c, .agg #[.int .i64 l0, .int .i64 l1, .int .i64 l2]] W fun e w' => e = .returned (.tuple #[stV p3 n co li sz3 tx3 (.slice A0 n0 k0) (.slice A1 n1 k1), .int .i64 er]) ∧ Below W.heap.size W w') :
    Calls Tryd.prog 40 #[stV 9 n co li sz tx (.slice A0 n0 k0) (.slice A1 n1 k1), .int .u8 c, .agg #[.int .i64 l0, .int .i64 l1, .int .i64 l2]] w fun e w' => e = .returned (.tuple #[stV p3 n co li sz3 tx3 (.slice A0 n0 k0) (.slice A1 n1 k1), .int .i64 er]) ∧ Below w.heap.size w w' := by
  have HL := Aside0.mk HL
  clear hG
  go_enter Tryd.func40, Tryd.ntmps40
  go_wp2_with fail
  refine (HL.out _ (below3 (Below.refl _ _) _ _ _)).mono ?_
  rintro e w5 ⟨rfl, hb5⟩
  have hR5 : w5.heap[w.heap.size + 1 + 1]? = some (.cells #[Value.int .i64 0, Value.int .u64 0, Value.int .i64 0, Value.int .i64 0, Value.int .i64 0, Value.string ⟨#[]⟩, Value.slice none 0 0, Value.slice none 0 0] 39 (0, 0)) := (hb5.block _ (by simp only [World.size_alloc]; omega)).trans (by exact blk3 w _ _ _ _)
  have HR5 := Aside0.mk hR5
  have HA := Aside0.mk (fun W W' (h : Below w.heap.size w W) (h2 : Below W.heap.size W W') => h.trans (h2.mono h.size))
  have B5 := Aside0.mk (HA.out _ _ (by exact below3 (Below.refl _ _) _ _ _) hb5)
  have u0 : w5.cell? ⟨w.heap.size + 1 + 1, 0, none⟩ = some (Value.int .i64 0) := (blk_cell hR5 0).trans rfl
  have g0 := blk_frozen hR5 0
  have u1 : w5.cell? ⟨w.heap.size + 1 + 1, 1, none⟩ = some (Value.int .u64 0) := (blk_cell hR5 1).trans rfl
  have g1 := blk_frozen hR5 1
  have u2 : w5.cell? ⟨w.heap.size + 1 + 1, 2, none⟩ = some (Value.int .i64 0) := (blk_cell hR5 2).trans rfl
  have g2 := blk_frozen hR5 2
  have u3 : w5.cell? ⟨w.heap.size + 1 + 1, 3, none⟩ = some (Value.int .i64 0) := (blk_cell hR5 3).trans rfl
  have g3 := blk_frozen hR5 3
  have u4 : w5.cell? ⟨w.heap.size + 1 + 1, 4, none⟩ = some (Value.int .i64 0) := (blk_cell hR5 4).trans rfl
  have g4 := blk_frozen hR5 4
  have u5 : w5.cell? ⟨w.heap.size + 1 + 1, 5, none⟩ = some (Value.string ⟨#[]⟩) := (blk_cell hR5 5).trans rfl
  have g5 := blk_frozen hR5 5
  have u6 : w5.cell? ⟨w.heap.size + 1 + 1, 6, none⟩ = some (Value.slice none 0 0) := (blk_cell hR5 6).trans rfl
  have g6 := blk_frozen hR5 6
  have u7 : w5.cell? ⟨w.heap.size + 1 + 1, 7, none⟩ = some (Value.slice none 0 0) := (blk_cell hR5 7).trans rfl
  have g7 := blk_frozen hR5 7
  clear hR5 hb5
  go_wp2
  refine bodyPost_ret (results_ct rfl _ _ (w.heap.size + 1 + 1) 39 _ (0, 0) _ (by rfl) (by exact put8 HR5.out _ _ _ _ _ _ _ _) Tryd.underlying39 rfl (by kernel_rfl)) rfl ⟨rfl, ?_⟩
  have hbb := B5.out
  repeat (refine bset ?_ _ _ _ (by omega))
  exact hbb
set_option maxHeartbeats 4000000 in
set_option maxRecDepth 100000 in
theorem st8_7a (n co li sz : Int) (tx : ByteArray) (A0 A1 : Option Addr) (n0 n1 k0 k1 : Nat) (c l0 l1 l2 p3 sz3 er : Int) (tx3 : ByteArray) (w : World) (hG : TabOk w) (h3 : (c == 58) = true)
    (HL : ∀ W, Below w.heap.size w W → Calls Tryd.prog 65 #[stV 8 n co li sz tx (.slice A0 n0 k0) (.slice A1 n1 k1), .int .u8 c, .agg #[.int .i64 l0, .int .i64 l1, .int .i64 l2]] W fun e w' => e = .returned (.tuple #[stV p3 n co li sz3 tx3 (.slice A0 n0 k0) (.slice A1 n1 k1), .int .i64 er]) ∧ Below W.heap.size W w') :
    Calls Tryd.prog 40 #[stV 7 n co li sz tx (.slice A0 n0 k0) (.slice A1 n1 k1), .int .u8 c, .agg #[.int .i64 l0, .int .i64 l1, .int .i64 l2]] w fun e w' => e = .returned (.tuple #[stV p3 n co li sz3 tx3 (.slice A0 n0 k0) (.slice A1 n1 k1), .int .i64 er]) ∧ Below w.heap.size w w' := by
  have HL := Aside0.mk HL
  clear hG
  go_enter Tryd.func40, Tryd.ntmps40
  go_wp2_with fail
  refine (HL.out _ (below3 (Below.refl _ _) _ _ _)).mono ?_
  rintro e w5 ⟨rfl, hb5⟩
  have hR5 : w5.heap[w.heap.size + 1 + 1]? = some (.cells #[Value.int .i64 0, Value.int .u64 0, Value.int .i64 0, Value.int .i64 0, Value.int .i64 0, Value.string ⟨#[]⟩, Value.slice none 0 0, Value.slice none 0 0] 39 (0, 0)) := (hb5.block _ (by simp only [World.size_alloc]; omega)).trans (by exact blk3 w _ _ _ _)
  have HR5 := Aside0.mk hR5
  have HA := Aside0.mk (fun W W' (h : Below w.heap.size w W) (h2 : Below W.heap.size W W') => h.trans (h2.mono h.size))
  have B5 := Aside0.mk (HA.out _ _ (by exact below3 (Below.refl _ _) _ _ _) hb5)
  have u0 : w5.cell? ⟨w.heap.size + 1 + 1, 0, none⟩ = some (Value.int .i64 0) := (blk_cell hR5 0).trans rfl
  have g0 := blk_frozen hR5 0
  have u1 : w5.cell? ⟨w.heap.size + 1 + 1, 1, none⟩ = some (Value.int .u64 0) := (blk_cell hR5 1).trans rfl
  have g1 := blk_frozen hR5 1
  have u2 : w5.cell? ⟨w.heap.size + 1 + 1, 2, none⟩ = some (Value.int .i64 0) := (blk_cell hR5 2).trans rfl
  have g2 := blk_frozen hR5 2
  have u3 : w5.cell? ⟨w.heap.size + 1 + 1, 3, none⟩ = some (Value.int .i64 0) := (blk_cell hR5 3).trans rfl
  have g3 := blk_frozen hR5 3
  have u4 : w5.cell? ⟨w.heap.size + 1 + 1, 4, none⟩ = some (Value.int .i64 0) := (blk_cell hR5 4).trans rfl
  have g4 := blk_frozen hR5 4
  have u5 : w5.cell? ⟨w.heap.size + 1 + 1, 5, none⟩ = some (Value.string ⟨#[]⟩) := (blk_cell hR5 5).trans rfl
  have g5 := blk_frozen hR5 5
  have u6 : w5.cell? ⟨w.heap.size + 1 + 1, 6, none⟩ = some (Value.slice none 0 0) := (blk_cell hR5 6).trans rfl
  have g6 := blk_frozen hR5 6
  have u7 : w5.cell? ⟨w.heap.size + 1 + 1, 7, none⟩ = some (Value.slice none 0 0) := (blk_cell hR5 7).trans rfl
  have g7 := blk_frozen hR5 7
  clear hR5 hb5
  go_wp2
  refine bodyPost_ret (results_ct rfl _ _ (w.heap.size + 1 + 1) 39 _ (0, 0) _ (by rfl) (by exact put8 HR5.out _ _ _ _ _ _ _ _) Tryd.underlying39 rfl (by kernel_rfl)) rfl ⟨rfl, ?_⟩
  have hbb := B5.out
  repeat (refine bset ?_ _ _ _ (by omega))
  exact hbb
set_option maxHeartbeats 4000000 in
set_option maxRecDepth 100000 in
theorem st8_8a (n co li sz : Int) (tx : ByteArray) (A0 A1 : Option Addr) (n0 n1 k0 k1 : Nat) (c l0 l1 l2 p3 sz3 er : Int) (tx3 : ByteArray) (w : World) (hG : TabOk w) (h3 : (c == 13) = true)
    (HL : ∀ W, Below w.heap.size w W → Calls Tryd.prog 65 #[stV 9 n co li sz tx (.slice A0 n0 k0) (.slice A1 n1 k1), .int .u8 c, .agg #[.int .i64 l0, .int .i64 l1, .int .i64 l2]] W fun e w' => e = .returned (.tuple #[stV p3 n co li sz3 tx3 (.slice A0 n0 k0) (.slice A1 n1 k1), .int .i64 er]) ∧ Below W.heap.size W w') :
    Calls Tryd.prog 40 #[stV 8 n co li sz tx (.slice A0 n0 k0) (.slice A1 n1 k1), .int .u8 c, .agg #[.int .i64 l0, .int .i64 l1, .int .i64 l2]] w fun e w' => e = .returned (.tuple #[stV p3 n co li sz3 tx3 (.slice A0 n0 k0) (.slice A1 n1 k1), .int .i64 er]) ∧ Below w.heap.size w w' := by
  have HL := Aside0.mk HL
  clear hG
  go_enter Tryd.func40, Tryd.ntmps40
  go_wp2_with fail
  refine (HL.out _ (below3 (Below.refl _ _) _ _ _)).mono ?_
  rintro e w5 ⟨rfl, hb5⟩
  have hR5 : w5.heap[w.heap.size + 1 + 1]? = some (.cells #[Value.int .i64 0, Value.int .u64 0, Value.int .i64 0, Value.int .i64 0, Value.int .i64 0, Value.string ⟨#[]⟩, Value.slice none 0 0, Value.slice none 0 0] 39 (0, 0)) := (hb5.block _ (by simp only [World.size_alloc]; omega)).trans (by exact blk3 w _ _ _ _)
  have HR5 := Aside0.mk hR5
  have HA := Aside0.mk (fun W W' (h : Below w.heap.size w W) (h2 : Below W.heap.size W W') => h.trans (h2.mono h.size))
  have B5 := Aside0.mk (HA.out _ _ (by exact below3 (Below.refl _ _) _ _ _) hb5)
  have u0 : w5.cell? ⟨w.heap.size + 1 + 1, 0, none⟩ = some (Value.int .i64 0) := (blk_cell hR5 0).trans rfl
  have g0 := blk_frozen hR5 0
  have u1 : w5.cell? ⟨w.heap.size + 1 + 1, 1, none⟩ = some (Value.int .u64 0) := (blk_cell hR5 1).trans rfl
  have g1 := blk_frozen hR5 1
  have u2 : w5.cell? ⟨w.heap.size + 1 + 1, 2, none⟩ = some (Value.int .i64 0) := (blk_cell hR5 2).trans rfl
  have g2 := blk_frozen hR5 2
  have u3 : w5.cell? ⟨w.heap.size + 1 + 1, 3, none⟩ = some (Value.int .i64 0) := (blk_cell hR5 3).trans rfl
  have g3 := blk_frozen hR5 3
  have u4 : w5.cell? ⟨w.heap.size + 1 + 1, 4, none⟩ = some (Value.int .i64 0) := (blk_cell hR5 4).trans rfl
  have g4 := blk_frozen hR5 4
  have u5 : w5.cell? ⟨w.heap.size + 1 + 1, 5, none⟩ = some (Value.string ⟨#[]⟩) := (blk_cell hR5 5).trans rfl
  have g5 := blk_frozen hR5 5
  have u6 : w5.cell? ⟨w.heap.size + 1 + 1, 6, none⟩ = some (Value.slice none 0 0) := (blk_cell hR5 6).trans rfl
  have g6 := blk_frozen hR5 6
  have u7 : w5.cell? ⟨w.heap.size + 1 + 1, 7, none⟩ = some (Value.slice none 0 0) := (blk_cell hR5 7).trans rfl
  have g7 := blk_frozen hR5 7
  clear hR5 hb5
  go_wp2
  refine bodyPost_ret (results_ct rfl _ _ (w.heap.size + 1 + 1) 39 _ (0, 0) _ (by rfl) (by exact put8 HR5.out _ _ _ _ _ _ _ _) Tryd.underlying39 rfl (by kernel_rfl)) rfl ⟨rfl, ?_⟩
  have hbb := B5.out
  repeat (refine bset ?_ _ _ _ (by omega))
  exact hbb
set_option maxHeartbeats 4000000 in
set_option maxRecDepth 100000 in
theorem st8_8c (n co li sz : Int) (tx : ByteArray) (A0 A1 : Option Addr) (n0 n1 k0 k1 : Nat) (c l0 l1 l2 p3 sz3 er : Int) (tx3 : ByteArray) (w : World) (hG : TabOk w) (h3 : (c == 13) = false) (hbyt : catchpitref02_Byte.f c = some true)
    (HL : ∀ W, Below w.heap.size w W → Calls Tryd.prog 65 #[stV 8 n co li sz tx (.slice A0 n0 k0) (.slice A1 n1 k1), .int .u8 c, .agg #[.int .i64 l0, .int .i64 l1, .int .i64 l2]] W fun e w' => e = .returned (.tuple #[stV p3 n co li sz3 tx3 (.slice A0 n0 k0) (.slice A1 n1 k1), .int .i64 er]) ∧ Below W.heap.size W w') :
    Calls Tryd.prog 40 #[stV 8 n co li sz tx (.slice A0 n0 k0) (.slice A1 n1 k1), .int .u8 c, .agg #[.int .i64 l0, .int .i64 l1, .int .i64 l2]] w fun e w' => e = .returned (.tuple #[stV p3 n co li sz3 tx3 (.slice A0 n0 k0) (.slice A1 n1 k1), .int .i64 er]) ∧ Below w.heap.size w w' := by
  have HL := Aside0.mk HL
  have HC := Aside0.mk (fun (W : World) (h : Below w.heap.size w W) => catchpitref02_Byte.calls c true W (hG.below h) hbyt)
  clear hG
  go_enter Tryd.func40, Tryd.ntmps40
  go_wp2_with fail
  refine (HC.out _ (below3 (Below.refl _ _) _ _ _)).mono ?_
  rintro e w4 ⟨rfl, hd4⟩
  obtain ⟨w2, rfl, hs2, hb2⟩ := drawn3 hd4
  clear hd4
  go_wp2_with fail
  refine (HL.out _ (below3 hb2 _ _ _)).mono ?_
  rintro e w5 ⟨rfl, hb5⟩
  have hR5 : w5.heap[w.heap.size + 1 + 1]? = some (.cells #[Value.int .i64 0, Value.int .u64 0, Value.int .i64 0, Value.int .i64 0, Value.int .i64 0, Value.string ⟨#[]⟩, Value.slice none 0 0, Value.slice none 0 0] 39 (0, 0)) := (hb5.block _ (by simp only [World.size_alloc]; omega)).trans (by rw [← hs2]; exact blk3 w2 _ _ _ _)
  have HR5 := Aside0.mk hR5
  have HA := Aside0.mk (fun W W' (h : Below w.heap.size w W) (h2 : Below W.heap.size W W') => h.trans (h2.mono h.size))
  have B5 := Aside0.mk (HA.out _ _ (by exact below3 hb2 _ _ _) hb5)
  have u0 : w5.cell? ⟨w.heap.size + 1 + 1, 0, none⟩ = some (Value.int .i64 0) := (blk_cell hR5 0).trans rfl
  have g0 := blk_frozen hR5 0
  have u1 : w5.cell? ⟨w.heap.size + 1 + 1, 1, none⟩ = some (Value.int .u64 0) := (blk_cell hR5 1).trans rfl
  have g1 := blk_frozen hR5 1
  have u2 : w5.cell? ⟨w.heap.size + 1 + 1, 2, none⟩ = some (Value.int .i64 0) := (blk_cell hR5 2).trans rfl
  have g2 := blk_frozen hR5 2
  have u3 : w5.cell? ⟨w.heap.size + 1 + 1, 3, none⟩ = some (Value.int .i64 0) := (blk_cell hR5 3).trans rfl
  have g3 := blk_frozen hR5 3
  have u4 : w5.cell? ⟨w.heap.size + 1 + 1, 4, none⟩ = some (Value.int .i64 0) := (blk_cell hR5 4).trans rfl
  have g4 := blk_frozen hR5 4
  have u5 : w5.cell? ⟨w.heap.size + 1 + 1, 5, none⟩ = some (Value.string ⟨#[]⟩) := (blk_cell hR5 5).trans rfl
  have g5 := blk_frozen hR5 5
  have u6 : w5.cell? ⟨w.heap.size + 1 + 1, 6, none⟩ = some (Value.slice none 0 0) := (blk_cell hR5 6).trans rfl
  have g6 := blk_frozen hR5 6
  have u7 : w5.cell? ⟨w.heap.size + 1 + 1, 7, none⟩ = some (Value.slice none 0 0) := (blk_cell hR5 7).trans rfl
  have g7 := blk_frozen hR5 7
  clear hR5 hb5
  go_wp2
  refine bodyPost_ret (results_ct rfl _ _ (w.heap.size + 1 + 1) 39 _ (0, 0) _ (by rfl) (by exact put8 HR5.out _ _ _ _ _ _ _ _) Tryd.underlying39 rfl (by kernel_rfl)) rfl ⟨rfl, ?_⟩
  have hbb := B5.out
  repeat (refine bset ?_ _ _ _ (by omega))
  exact hbb
set_option maxHeartbeats 4000000 in
set_option maxRecDepth 100000 in
theorem st8_7c (n co li sz : Int) (tx : ByteArray) (A0 A1 : Option Addr) (n0 n1 k0 k1 : Nat) (c l0 l1 l2 p3 sz3 er : Int) (tx3 : ByteArray) (w : World) (hG : TabOk w) (h3 : (c == 58) = false) (k : Nat) (htok : catchpitref02_Token.f k (strOfNums [c]) = some true)
    (HL : ∀ W, Below w.heap.size w W → Calls Tryd.prog 65 #[stV 7 n co li sz tx (.slice A0 n0 k0) (.slice A1 n1 k1), .int .u8 c, .agg #[.int .i64 l0, .int .i64 l1, .int .i64 l2]] W fun e w' => e = .returned (.tuple #[stV p3 n co li sz3 tx3 (.slice A0 n0 k0) (.slice A1 n1 k1), .int .i64 er]) ∧ Below W.heap.size W w') :
    Calls Tryd.prog 40 #[stV 7 n co li sz tx (.slice A0 n0 k0) (.slice A1 n1 k1), .int .u8 c, .agg #[.int .i64 l0, .int .i64 l1, .int .i64 l2]] w fun e w' => e = .returned (.tuple #[stV p3 n co li sz3 tx3 (.slice A0 n0 k0) (.slice A1 n1 k1), .int .i64 er]) ∧ Below w.heap.size w w' := by
  have HL := Aside0.mk HL
  have HC := Aside0.mk (fun (W : World) (h : Below w.heap.size w W) => catchpitref02_Token.calls k (strOfNums [c]) true W (hG.below h) htok)
  have hcv := one_byte4 w c
  clear hG
  go_enter Tryd.func40, Tryd.ntmps40
  go_wp2_with fail
  refine (HC.out _ (below_alloc (below3 (Below.refl _ _) _ _ _) _)).mono ?_
  rintro e w4 ⟨rfl, hd4⟩
  obtain ⟨w2, rfl, hs2, hb2⟩ := drawn4 hd4
  clear hd4
  go_wp2_with fail
  refine (HL.out _ (below_alloc (below3 hb2 _ _ _) _)).mono ?_
  rintro e w5 ⟨rfl, hb5⟩
  have hR5 : w5.heap[w.heap.size + 1 + 1]? = some (.cells #[Value.int .i64 0, Value.int .u64 0, Value.int .i64 0, Value.int .i64 0, Value.int .i64 0, Value.string ⟨#[]⟩, Value.slice none 0 0, Value.slice none 0 0] 39 (0, 0)) := (hb5.block _ (by simp only [World.size_alloc]; omega)).trans (by rw [← hs2]; exact blk4 w2 _ _ _ _ _)
  have HR5 := Aside0.mk hR5
  have HA := Aside0.mk (fun W W' (h : Below w.heap.size w W) (h2 : Below W.heap.size W W') => h.trans (h2.mono h.size))
  have B5 := Aside0.mk (HA.out _ _ (by exact below_alloc (below3 hb2 _ _ _) _) hb5)
  have u0 : w5.cell? ⟨w.heap.size + 1 + 1, 0, none⟩ = some (Value.int .i64 0) := (blk_cell hR5 0).trans rfl
  have g0 := blk_frozen hR5 0
  have u1 : w5.cell? ⟨w.heap.size + 1 + 1, 1, none⟩ = some (Value.int .u64 0) := (blk_cell hR5 1).trans rfl
  have g1 := blk_frozen hR5 1
  have u2 : w5.cell? ⟨w.heap.size + 1 + 1, 2, none⟩ = some (Value.int .i64 0) := (blk_cell hR5 2).trans rfl
  have g2 := blk_frozen hR5 2
  have u3 : w5.cell? ⟨w.heap.size + 1 + 1, 3, none⟩ = some (Value.int .i64 0) := (blk_cell hR5 3).trans rfl
  have g3 := blk_frozen hR5 3
  have u4 : w5.cell? ⟨w.heap.size + 1 + 1, 4, none⟩ = some (Value.int .i64 0) := (blk_cell hR5 4).trans rfl
  have g4 := blk_frozen hR5 4
  have u5 : w5.cell? ⟨w.heap.size + 1 + 1, 5, none⟩ = some (Value.string ⟨#[]⟩) := (blk_cell hR5 5).trans rfl
  have g5 := blk_frozen hR5 5
  have u6 : w5.cell? ⟨w.heap.size + 1 + 1, 6, none⟩ = some (Value.slice none 0 0) := (blk_cell hR5 6).trans rfl
  have g6 := blk_frozen hR5 6
  have u7 : w5.cell? ⟨w.heap.size + 1 + 1, 7, none⟩ = some (Value.slice none 0 0) := (blk_cell hR5 7).trans rfl
  have g7 := blk_frozen hR5 7
  clear hR5 hb5
  go_wp2
  refine bodyPost_ret (results_ct rfl _ _ (w.heap.size + 1 + 1) 39 _ (0, 0) _ (by rfl) (by exact put8 HR5.out _ _ _ _ _ _ _ _) Tryd.underlying39 rfl (by kernel_rfl)) rfl ⟨rfl, ?_⟩
  have hbb := B5.out
  repeat (refine bset ?_ _ _ _ (by omega))
  exact hbb
set_option maxHeartbeats 4000000 in
set_option maxRecDepth 100000 in
theorem st8_6d (n co li sz : Int) (tx : ByteArray) (A0 A1 : Option Addr) (n0 n1 k0 k1 : Nat) (c l0 l1 l2 p3 sz3 er : Int) (tx3 : ByteArray) (w : World) (hG : TabOk w) (h3 : (c == 13) = false) (h4 : ¬ l1 ≤ li) (hw : IntKind.i64.wrap (li + 1) = li + 1) (k : Nat) (htok : catchpitref02_Token.f k (strOfNums [c]) = some true)
    (HL : ∀ W, Below w.heap.size w W → Calls Tryd.prog 65 #[stV 7 n co (li + 1) sz tx (.slice A0 n0 k0) (.slice A1 n1 k1), .int .u8 c, .agg #[.int .i64 l0, .int .i64 l1, .int .i64 l2]] W fun e w' => e = .returned (.tuple #[stV p3 n co (li + 1) sz3 tx3 (.slice A0 n0 k0) (.slice A1 n1 k1), .int .i64 er]) ∧ Below W.heap.size W w') :
    Calls Tryd.prog 40 #[stV 6 n co li sz tx (.slice A0 n0 k0) (.slice A1 n1 k1), .int .u8 c, .agg #[.int .i64 l0, .int .i64 l1, .int .i64 l2]] w fun e w' => e = .returned (.tuple #[stV p3 n co (li + 1) sz3 tx3 (.slice A0 n0 k0) (.slice A1 n1 k1), .int .i64 er]) ∧ Below w.heap.size w w' := by
  have HL := Aside0.mk HL
  have HC := Aside0.mk (fun (W : World) (h : Below w.heap.size w W) => catchpitref02_Token.calls k (strOfNums [c]) true W (hG.below h) htok)
  have hcv := one_byte4 w c
  clear hG
  go_enter Tryd.func40, Tryd.ntmps40
  go_wp2_with fail
  refine (HC.out _ (below_alloc (below3 (Below.refl _ _) _ _ _) _)).mono ?_
  rintro e w4 ⟨rfl, hd4⟩
  obtain ⟨w2, rfl, hs2, hb2⟩ := drawn4 hd4
  clear hd4
  go_wp2_with fail
  refine (HL.out _ (below_alloc (below3 hb2 _ _ _) _)).mono ?_
  rintro e w5 ⟨rfl, hb5⟩
  have hR5 : w5.heap[w.heap.size + 1 + 1]? = some (.cells #[Value.int .i64 0, Value.int .u64 0, Value.int .i64 0, Value.int .i64 0, Value.int .i64 0, Value.string ⟨#[]⟩, Value.slice none 0 0, Value.slice none 0 0] 39 (0, 0)) := (hb5.block _ (by simp only [World.size_alloc]; omega)).trans (by rw [← hs2]; exact blk4 w2 _ _ _ _ _)
  have HR5 := Aside0.mk hR5
  have HA := Aside0.mk (fun W W' (h : Below w.heap.size w W) (h2 : Below W.heap.size W W') => h.trans (h2.mono h.size))
  have B5 := Aside0.mk (HA.out _ _ (by exact below_alloc (below3 hb2 _ _ _) _) hb5)
  have u0 : w5.cell? ⟨w.heap.size + 1 + 1, 0, none⟩ = some (Value.int .i64 0) := (blk_cell hR5 0).trans rfl
  have g0 := blk_frozen hR5 0
  have u1 : w5.cell? ⟨w.heap.size + 1 + 1, 1, none⟩ = some (Value.int .u64 0) := (blk_cell hR5 1).trans rfl
  have g1 := blk_frozen hR5 1
  have u2 : w5.cell? ⟨w.heap.size + 1 + 1, 2, none⟩ = some (Value.int .i64 0) := (blk_cell hR5 2).trans rfl
  have g2 := blk_frozen hR5 2
  have u3 : w5.cell? ⟨w.heap.size + 1 + 1, 3, none⟩ = some (Value.int .i64 0) := (blk_cell hR5 3).trans rfl
  have g3 := blk_frozen hR5 3
  have u4 : w5.cell? ⟨w.heap.size + 1 + 1, 4, none⟩ = some (Value.int .i64 0) := (blk_cell hR5 4).trans rfl
  have g4 := blk_frozen hR5 4
  have u5 : w5.cell? ⟨w.heap.size + 1 + 1, 5, none⟩ = some (Value.string ⟨#[]⟩) := (blk_cell hR5 5).trans rfl
  have g5 := blk_frozen hR5 5
  have u6 : w5.cell? ⟨w.heap.size + 1 + 1, 6, none⟩ = some (Value.slice none 0 0) := (blk_cell hR5 6).trans rfl
  have g6 := blk_frozen hR5 6
  have u7 : w5.cell? ⟨w.heap.size + 1 + 1, 7, none⟩ = some (Value.slice none 0 0) := (blk_cell hR5 7).trans rfl
  have g7 := blk_frozen hR5 7
  clear hR5 hb5
  go_wp2
  refine bodyPost_ret (results_ct rfl _ _ (w.heap.size + 1 + 1) 39 _ (0, 0) _ (by rfl) (by exact put8 HR5.out _ _ _ _ _ _ _ _) Tryd.underlying39 rfl (by kernel_rfl)) rfl ⟨rfl, ?_⟩
  have hbb := B5.out
  repeat (refine bset ?_ _ _ _ (by omega))
  exact hbb
end Go.Proofs.YtmmbpbgcobmifaaDoorH
end
section
namespace Go.Proofs.YtmmbpbgcobmifaaDoor.Pr
end Go.Proofs.YtmmbpbgcobmifaaDoor.Pr
namespace Go.Proofs.YtmmbpbgcobmifaaDoorH
set_option linter.unusedVariables false
set_option linter.unusedSimpArgs false
open Go Go.RowKit Go.Proofs.YtmmbpbgcobmifaaDoorW.PrintWords Go.Proofs.YtmmbpbgcobmifaaDoorW.PrintLast Go.Proofs.YtmmbpbgcobmifaaDoorW.PrintMore Go.Proofs.YtmmbpbgcobmifaaDoor.Pr Go.Proofs.YtmmbpbgcobmifaaDoorM
theorem fresh_row {N : Nat} {w' : World} {A2 : Option Addr} {fx : List Fld} (hC : ∀ W', (∀ k, N ≤ k → W'.heap[k]? = w'.heap[k]?) → Kd.C k53 W' A2 fx.length fx) (hp : 0 < fx.length) : ∀ ad, A2 = some ad → N ≤ ad.block := by
  intro ad e
  have h := hC { w' with heap := w'.heap.mapIdx (fun i o => if i < N then .cells #[] 0 (0, 0) else o) } (fun k hk => by
    show (w'.heap.mapIdx _)[k]? = _
    rw [Array.getElem?_mapIdx]
    cases hq : w'.heap[k]? with
    | none => rfl
    | some o => simp [show ¬ k < N by omega])
  obtain ⟨ad', e', hc⟩ := h.2.2 hp
  rw [e] at e'
  cases e'
  obtain ⟨cs, _, hK, hcell⟩ := hc 0 fx[0] (List.getElem?_eq_getElem hp)
  have c0 := hcell 0 (.string fx[0].f0) (by rw [k53_open hK]; rfl)
  rw [Nat.zero_mul] at c0
  refine Nat.le_of_not_lt fun hlt => ?_
  have hb : (ad.add 0).block = ad.block := by unfold Addr.add; split <;> rfl
  unfold World.cell? at c0
  rw [show (ad.add (0 + 0)) = ad.add 0 from rfl, hb] at c0
  have hq : (w'.heap.mapIdx (fun i o => if i < N then (.cells #[] 0 (0, 0) : Obj) else o))[ad.block]? = (w'.heap[ad.block]?).map (fun _ => .cells #[] 0 (0, 0)) := by
    rw [Array.getElem?_mapIdx]
    cases w'.heap[ad.block]? with
    | none => rfl
    | some o => simp [hlt]
  dsimp only at c0
  rw [hq] at c0
  cases hz : w'.heap[ad.block]? with
  | none => rw [hz] at c0; simp at c0
  | some o => rw [hz] at c0; simp at c0
set_option maxHeartbeats 4000000 in
set_option maxRecDepth 100000 in
theorem st8_9d (n co li sz : Int) (tx : ByteArray) (A0 A1 : Option Addr) (n0 k0 k1 : Nat) (fs fx : List Fld) (c l0 l1 l2 : Int) (w : World) (h3 : (c != 10) = false) (hfx : 0 < fx.length)
    (HL : ∀ W, Below w.heap.size w W → Calls Tryd.prog 65 #[stV 9 n co li sz tx (.slice A0 n0 k0) (.slice A1 fs.length k1), .int .u8 c, .agg #[.int .i64 l0, .int .i64 l1, .int .i64 l2]] W fun e w' => ∃ A2 k2, e = .returned (.tuple #[stV 6 n co li (sz + 1) ⟨#[]⟩ (.slice A0 n0 k0) (.slice A2 fx.length k2), .int .i64 0]) ∧ fx.length ≤ k2 ∧ (∀ W', (∀ k, W.heap.size ≤ k → W'.heap[k]? = w'.heap[k]?) → Kd.C k53 W' A2 fx.length fx) ∧ Below W.heap.size W w') :
    Calls Tryd.prog 40 #[stV 9 n co li sz tx (.slice A0 n0 k0) (.slice A1 fs.length k1), .int .u8 c, .agg #[.int .i64 l0, .int .i64 l1, .int .i64 l2]] w fun e w' => ∃ A2 k2, e = .returned (.tuple #[stV 6 n co li (sz + 1) ⟨#[]⟩ (.slice A0 n0 k0) (.slice A2 fx.length k2), .int .i64 0]) ∧ fx.length ≤ k2 ∧ Kd.C k53 w' A2 fx.length fx ∧ Below w.heap.size w w' ∧ ∀ ad, A2 = some ad → w.heap.size ≤ ad.block := by
  have HL := Aside0.mk HL
  go_enter Tryd.func40, Tryd.ntmps40
  go_wp2_with fail
  refine (HL.out _ (below3 (Below.refl _ _) _ _ _)).mono ?_
  rintro e w5 ⟨A2, k2, rfl, hle, hC, hb5⟩
  have hR5 : w5.heap[w.heap.size + 1 + 1]? = some (.cells #[Value.int .i64 0, Value.int .u64 0, Value.int .i64 0, Value.int .i64 0, Value.int .i64 0, Value.string ⟨#[]⟩, Value.slice none 0 0, Value.slice none 0 0] 39 (0, 0)) := (hb5.block _ (by simp only [World.size_alloc]; omega)).trans (by exact blk3 w _ _ _ _)
  have HR5 := Aside0.mk hR5
  have HA := Aside0.mk (fun W W' (h : Below w.heap.size w W) (h2 : Below W.heap.size W W') => h.trans (h2.mono h.size))
  have B5 := Aside0.mk (HA.out _ _ (by exact below3 (Below.refl _ _) _ _ _) hb5)
  have hC2 : ∀ W', (∀ k, w.heap.size + 1 + 1 + 1 ≤ k → W'.heap[k]? = w5.heap[k]?) → Kd.C k53 W' A2 fx.length fx := fun W' h => hC W' (fun k hk => h k (by simp only [World.size_alloc] at hk; omega))
  have HC2 := Aside0.mk hC2
  have HLE := Aside0.mk hle
  have HFR := Aside0.mk (fresh_row hC hfx)
  have u0 : w5.cell? ⟨w.heap.size + 1 + 1, 0, none⟩ = some (Value.int .i64 0) := (blk_cell hR5 0).trans rfl
  have g0 := blk_frozen hR5 0
  have u1 : w5.cell? ⟨w.heap.size + 1 + 1, 1, none⟩ = some (Value.int .u64 0) := (blk_cell hR5 1).trans rfl
  have g1 := blk_frozen hR5 1
  have u2 : w5.cell? ⟨w.heap.size + 1 + 1, 2, none⟩ = some (Value.int .i64 0) := (blk_cell hR5 2).trans rfl
  have g2 := blk_frozen hR5 2
  have u3 : w5.cell? ⟨w.heap.size + 1 + 1, 3, none⟩ = some (Value.int .i64 0) := (blk_cell hR5 3).trans rfl
  have g3 := blk_frozen hR5 3
  have u4 : w5.cell? ⟨w.heap.size + 1 + 1, 4, none⟩ = some (Value.int .i64 0) := (blk_cell hR5 4).trans rfl
  have g4 := blk_frozen hR5 4
  have u5 : w5.cell? ⟨w.heap.size + 1 + 1, 5, none⟩ = some (Value.string ⟨#[]⟩) := (blk_cell hR5 5).trans rfl
  have g5 := blk_frozen hR5 5
  have u6 : w5.cell? ⟨w.heap.size + 1 + 1, 6, none⟩ = some (Value.slice none 0 0) := (blk_cell hR5 6).trans rfl
  have g6 := blk_frozen hR5 6
  have u7 : w5.cell? ⟨w.heap.size + 1 + 1, 7, none⟩ = some (Value.slice none 0 0) := (blk_cell hR5 7).trans rfl
  have g7 := blk_frozen hR5 7
  clear hR5 hb5 hC hC2 hle
  go_wp2
  refine bodyPost_ret (results_ct rfl _ _ (w.heap.size + 1 + 1) 39 _ (0, 0) _ (by rfl) (by exact put8 HR5.out _ _ _ _ _ _ _ _) Tryd.underlying39 rfl (by kernel_rfl)) rfl ⟨A2, k2, rfl, HLE.out, HC2.out _ (fun k hk => ?_), ?_, fun ad e => Nat.le_trans (by simp only [World.size_alloc]; omega) (HFR.out ad e)⟩
  · have q : k ≠ w.heap.size + 1 + 1 := by omega
    rw [farH _ _ _ _ _ q, farH _ _ _ _ _ q, farH _ _ _ _ _ q, farH _ _ _ _ _ q, farH _ _ _ _ _ q, farH _ _ _ _ _ q, farH _ _ _ _ _ q, farH _ _ _ _ _ q]
  · have hbb := B5.out
    repeat (refine bset ?_ _ _ _ (by omega))
    exact hbb
set_option maxHeartbeats 2000000 in
set_option maxRecDepth 100000 in
theorem st8_3a ( co li sz : Int) (tx : ByteArray) (A0 A1 : Option Addr) (D : List Int) (n1 k0 k1 : Nat) (c l0 l1 l2 : Int) (w : World) (hr : Kd.C (Kd.int .u8) w A0 D.length D) (hk : D.length ≤ k0) (hD : D.length ≤ 1000000)  :
    Calls Tryd.prog 40 #[stV 3 1 co li sz tx (.slice A0 D.length k0) (.slice A1 n1 k1), .int .u8 c, .agg #[.int .i64 l0, .int .i64 l1, .int .i64 l2]] w fun e w' => ∃ A2 k2, e = .returned (.tuple #[stV 4 0 co li sz tx (.slice A2 (D ++ [c]).length k2) (.slice A1 n1 k1), .int .i64 0]) ∧ (D ++ [c]).length ≤ k2 ∧ Kd.C (Kd.int .u8) w' A2 (D ++ [c]).length (D ++ [c]) ∧ Below w.heap.size w w' := by
  obtain ⟨W3, hW3⟩ : ∃ W3, (((w.alloc (.cells #[Value.int .i64 3, Value.int .u64 1, Value.int .i64 co, Value.int .i64 li, Value.int .i64 sz, Value.string tx, Value.slice A0 D.length k0, Value.slice A1 n1 k1] 39)).alloc (.cells #[.int .i64 l0, .int .i64 l1, .int .i64 l2] 23)).alloc (.cells #[Value.int .i64 0, Value.int .u64 0, Value.int .i64 0, Value.int .i64 0, Value.int .i64 0, Value.string ⟨#[]⟩, Value.slice none 0 0, Value.slice none 0 0] 39)) = W3 := ⟨_, rfl⟩
  have B3 := Aside0.mk (show Below w.heap.size w W3 by rw [← hW3]; exact below3 (Below.refl _ _) _ _ _)
  have hS3 : W3.heap[w.heap.size]? = some (.cells #[Value.int .i64 3, Value.int .u64 1, Value.int .i64 co, Value.int .i64 li, Value.int .i64 sz, Value.string tx, Value.slice A0 D.length k0, Value.slice A1 n1 k1] 39 (0, 0)) := by rw [← hW3]; exact alloc_keep _ (alloc_keep _ (World.alloc_heap_new w _))
  have hR3 : W3.heap[w.heap.size + 1 + 1]? = some (.cells #[Value.int .i64 0, Value.int .u64 0, Value.int .i64 0, Value.int .i64 0, Value.int .i64 0, Value.string ⟨#[]⟩, Value.slice none 0 0, Value.slice none 0 0] 39 (0, 0)) := by rw [← hW3]; exact blk3 w _ _ _ _
  have HS := Aside0.mk (fun W (h : Below W3.heap.size W3 W) => (h.block _ (blk_lt hS3)).trans hS3)
  have HRR := Aside0.mk (fun W (h : Below W3.heap.size W3 W) => (h.block _ (blk_lt hR3)).trans hR3)
  have HDC := Aside0.mk (Kd.C_below hr B3.out)
  have hlt3 := Aside0.mk (blk_lt hR3)
  have HW3 := Aside0.mk hW3
  clear hr hS3 hR3 hW3
  go_enter Tryd.func40, Tryd.ntmps40
  go_wp2_with (first
    | ((with_reducible refine gate_builtin (b := .append) (xs := #[.tmp 129, .tmp 131]) rfl ?_); at_builtin; rw [HW3.out]; refine Kd.R_append_rows (Kd.int .u8) (w0 := W3) W3.heap.size rfl (.tmp 129) (.tmp 131) 24 5 (.int .u8 0) 1 rfl Tryd.underlying24 info5 rfl (by decide) (by omega) (.slice none 0 0) ([] : List Int) D _ _ _ (fun _ => True) (fun _ => False) rfl rfl ?aO ?aR (fun _ _ h => h) (fun _ h => h.elim) (fun _ _ => trivial) ?aB ?aS ?aL ?_; (case aO => exact Kd.R_nil _ _ _ _ _); (case aR => exact HDC.out); (case aB => exact Below.refl _ _); (case aS => exact Nat.le_refl _); (case aL => simp only [List.length_nil]; omega); intro v5 w5 ho5 hb5 hg5 hat5; have HO5 := Aside0.mk ho5; have HB5 := Aside0.mk hb5; clear ho5 hb5 hg5 hat5)
    | ((with_reducible refine gate_builtin (b := .append) (xs := #[.tmp 133, .tmp 135]) rfl ?_); at_builtin; refine Kd.R_append (Kd.int .u8) (w0 := W3) W3.heap.size rfl (.tmp 133) (.tmp 135) 24 5 (.int .u8 0) 1 rfl Tryd.underlying24 info5 rfl (by decide) (by omega) v5 ([] ++ D) c [.int .u8 c] (fun _ => True) (fun _ => False) rfl rfl ?aP (fun _ hk => hk.elim) (fun _ _ => trivial) ?aO ?aB ?aS ?aL ?_; (case aP => rfl); (case aO => exact HO5.out); (case aB => exact HB5.out); (case aS => exact HB5.out.size); (case aL => simp only [List.nil_append]; omega); intro v6 w6 ho6 hb6 hg6 hat6; rw [List.nil_append] at ho6; have HO6 := Aside0.mk ho6; have HB6 := Aside0.mk hb6; obtain ⟨A6, c6, e6⟩ := Kd.R_slice ho6; subst e6; have hS6 := HS.out w6 hb6; have t0 : w6.cell? ⟨w.heap.size, 0, none⟩ = some (Value.int .i64 3) := (blk_cell hS6 0).trans rfl; have t1 : w6.cell? ⟨w.heap.size, 1, none⟩ = some (Value.int .u64 1) := (blk_cell hS6 1).trans rfl; have t2 : w6.cell? ⟨w.heap.size, 2, none⟩ = some (Value.int .i64 co) := (blk_cell hS6 2).trans rfl; have t3 : w6.cell? ⟨w.heap.size, 3, none⟩ = some (Value.int .i64 li) := (blk_cell hS6 3).trans rfl; have t4 : w6.cell? ⟨w.heap.size, 4, none⟩ = some (Value.int .i64 sz) := (blk_cell hS6 4).trans rfl; have t5 : w6.cell? ⟨w.heap.size, 5, none⟩ = some (Value.string tx) := (blk_cell hS6 5).trans rfl; have t6 : w6.cell? ⟨w.heap.size, 6, none⟩ = some (Value.slice A0 D.length k0) := (blk_cell hS6 6).trans rfl; have t7 : w6.cell? ⟨w.heap.size, 7, none⟩ = some (Value.slice A1 n1 k1) := (blk_cell hS6 7).trans rfl; have f0 := blk_frozen hS6 0; have f1 := blk_frozen hS6 1; have f6 := blk_frozen hS6 6; have hR6 := HRR.out w6 hb6; have u0 : w6.cell? ⟨w.heap.size + 1 + 1, 0, none⟩ = some (Value.int .i64 0) := (blk_cell hR6 0).trans rfl; have u1 : w6.cell? ⟨w.heap.size + 1 + 1, 1, none⟩ = some (Value.int .u64 0) := (blk_cell hR6 1).trans rfl; have u2 : w6.cell? ⟨w.heap.size + 1 + 1, 2, none⟩ = some (Value.int .i64 0) := (blk_cell hR6 2).trans rfl; have u3 : w6.cell? ⟨w.heap.size + 1 + 1, 3, none⟩ = some (Value.int .i64 0) := (blk_cell hR6 3).trans rfl; have u4 : w6.cell? ⟨w.heap.size + 1 + 1, 4, none⟩ = some (Value.int .i64 0) := (blk_cell hR6 4).trans rfl; have u5 : w6.cell? ⟨w.heap.size + 1 + 1, 5, none⟩ = some (Value.string ⟨#[]⟩) := (blk_cell hR6 5).trans rfl; have u6 : w6.cell? ⟨w.heap.size + 1 + 1, 6, none⟩ = some (Value.slice none 0 0) := (blk_cell hR6 6).trans rfl; have u7 : w6.cell? ⟨w.heap.size + 1 + 1, 7, none⟩ = some (Value.slice none 0 0) := (blk_cell hR6 7).trans rfl; have g0 := blk_frozen hR6 0; have g1 := blk_frozen hR6 1; have g2 := blk_frozen hR6 2; have g3 := blk_frozen hR6 3; have g4 := blk_frozen hR6 4; have g5 := blk_frozen hR6 5; have g6 := blk_frozen hR6 6; have g7 := blk_frozen hR6 7; have HR6 := Aside0.mk hR6; clear ho6 hb6 hg6 hat6 hS6 hR6 HO5))
  have key : ∀ W, (∀ k, W3.heap.size ≤ k → W.heap[k]? = w6.heap[k]?) → (D ++ [c]).length ≤ c6 ∧ Kd.C (Kd.int .u8) W A6 (D ++ [c]).length (D ++ [c]) := fun W hW => by
    obtain ⟨_, _, q, hle, hC⟩ := Kd.R_reads (Kd.R_move (Kd.R_bound HO6.out) (fun k hk => hW k hk.2.1))
    cases q
    exact ⟨hle, hC⟩
  have hkk : ∀ k, W3.heap.size ≤ k → k ≠ w.heap.size ∧ k ≠ w.heap.size + 1 + 1 := fun k hk => by have := hlt3.out; omega
  have hRS : w.heap.size + 1 + 1 ≠ w.heap.size := by omega
  refine bodyPost_ret (results_ct rfl _ _ (w.heap.size + 1 + 1) 39 _ (0, 0) _ (by rfl) (by exact put8 (by rw [farH _ _ _ _ _ hRS, farH _ _ _ _ _ hRS, farH _ _ _ _ _ hRS]; exact HR6.out) _ _ _ _ _ _ _ _) Tryd.underlying39 rfl (by kernel_rfl)) rfl ⟨A6, c6, by rw [List.length_append]; rfl, (key w6 (fun _ _ => rfl)).1, (key _ (fun k hk => ?_)).2, ?_⟩
  · obtain ⟨q1, q2⟩ := hkk k hk
    rw [farH _ _ _ _ _ q2, farH _ _ _ _ _ q2, farH _ _ _ _ _ q2, farH _ _ _ _ _ q2, farH _ _ _ _ _ q2, farH _ _ _ _ _ q2, farH _ _ _ _ _ q2, farH _ _ _ _ _ q2]
    rw [farH _ _ _ _ _ q1, farH _ _ _ _ _ q1, farH _ _ _ _ _ q1]
  · have hbb := B3.out.trans (HB6.out.mono B3.out.size)
    repeat (refine bset ?_ _ _ _ (by omega))
    exact hbb
set_option maxHeartbeats 2000000 in
set_option maxRecDepth 100000 in
theorem st8_3b (n co li sz : Int) (tx : ByteArray) (A0 A1 : Option Addr) (D : List Int) (n1 k0 k1 : Nat) (c l0 l1 l2 : Int) (w : World) (hr : Kd.C (Kd.int .u8) w A0 D.length D) (hk : D.length ≤ k0) (hD : D.length ≤ 1000000) (h0 : (n - 1 == 0) = false) (hwn : IntKind.u64.wrap (n - 1) = n - 1) :
    Calls Tryd.prog 40 #[stV 3 n co li sz tx (.slice A0 D.length k0) (.slice A1 n1 k1), .int .u8 c, .agg #[.int .i64 l0, .int .i64 l1, .int .i64 l2]] w fun e w' => ∃ A2 k2, e = .returned (.tuple #[stV 3 (n - 1) co li sz tx (.slice A2 (D ++ [c]).length k2) (.slice A1 n1 k1), .int .i64 0]) ∧ (D ++ [c]).length ≤ k2 ∧ Kd.C (Kd.int .u8) w' A2 (D ++ [c]).length (D ++ [c]) ∧ Below w.heap.size w w' := by
  obtain ⟨W3, hW3⟩ : ∃ W3, (((w.alloc (.cells #[Value.int .i64 3, Value.int .u64 n, Value.int .i64 co, Value.int .i64 li, Value.int .i64 sz, Value.string tx, Value.slice A0 D.length k0, Value.slice A1 n1 k1] 39)).alloc (.cells #[.int .i64 l0, .int .i64 l1, .int .i64 l2] 23)).alloc (.cells #[Value.int .i64 0, Value.int .u64 0, Value.int .i64 0, Value.int .i64 0, Value.int .i64 0, Value.string ⟨#[]⟩, Value.slice none 0 0, Value.slice none 0 0] 39)) = W3 := ⟨_, rfl⟩
  have B3 := Aside0.mk (show Below w.heap.size w W3 by rw [← hW3]; exact below3 (Below.refl _ _) _ _ _)
  have hS3 : W3.heap[w.heap.size]? = some (.cells #[Value.int .i64 3, Value.int .u64 n, Value.int .i64 co, Value.int .i64 li, Value.int .i64 sz, Value.string tx, Value.slice A0 D.length k0, Value.slice A1 n1 k1] 39 (0, 0)) := by rw [← hW3]; exact alloc_keep _ (alloc_keep _ (World.alloc_heap_new w _))
  have hR3 : W3.heap[w.heap.size + 1 + 1]? = some (.cells #[Value.int .i64 0, Value.int .u64 0, Value.int .i64 0, Value.int .i64 0, Value.int .i64 0, Value.string ⟨#[]⟩, Value.slice none 0 0, Value.slice none 0 0] 39 (0, 0)) := by rw [← hW3]; exact blk3 w _ _ _ _
  have HS := Aside0.mk (fun W (h : Below W3.heap.size W3 W) => (h.block _ (blk_lt hS3)).trans hS3)
  have HRR := Aside0.mk (fun W (h : Below W3.heap.size W3 W) => (h.block _ (blk_lt hR3)).trans hR3)
  have HDC := Aside0.mk (Kd.C_below hr B3.out)
  have hlt3 := Aside0.mk (blk_lt hR3)
  have HW3 := Aside0.mk hW3
  clear hr hS3 hR3 hW3
  go_enter Tryd.func40, Tryd.ntmps40
  go_wp2_with (first
    | ((with_reducible refine gate_builtin (b := .append) (xs := #[.tmp 129, .tmp 131]) rfl ?_); at_builtin; rw [HW3.out]; refine Kd.R_append_rows (Kd.int .u8) (w0 := W3) W3.heap.size rfl (.tmp 129) (.tmp 131) 24 5 (.int .u8 0) 1 rfl Tryd.underlying24 info5 rfl (by decide) (by omega) (.slice none 0 0) ([] : List Int) D _ _ _ (fun _ => True) (fun _ => False) rfl rfl ?aO ?aR (fun _ _ h => h) (fun _ h => h.elim) (fun _ _ => trivial) ?aB ?aS ?aL ?_; (case aO => exact Kd.R_nil _ _ _ _ _); (case aR => exact HDC.out); (case aB => exact Below.refl _ _); (case aS => exact Nat.le_refl _); (case aL => simp only [List.length_nil]; omega); intro v5 w5 ho5 hb5 hg5 hat5; have HO5 := Aside0.mk ho5; have HB5 := Aside0.mk hb5; clear ho5 hb5 hg5 hat5)
    | ((with_reducible refine gate_builtin (b := .append) (xs := #[.tmp 133, .tmp 135]) rfl ?_); at_builtin; refine Kd.R_append (Kd.int .u8) (w0 := W3) W3.heap.size rfl (.tmp 133) (.tmp 135) 24 5 (.int .u8 0) 1 rfl Tryd.underlying24 info5 rfl (by decide) (by omega) v5 ([] ++ D) c [.int .u8 c] (fun _ => True) (fun _ => False) rfl rfl ?aP (fun _ hk => hk.elim) (fun _ _ => trivial) ?aO ?aB ?aS ?aL ?_; (case aP => rfl); (case aO => exact HO5.out); (case aB => exact HB5.out); (case aS => exact HB5.out.size); (case aL => simp only [List.nil_append]; omega); intro v6 w6 ho6 hb6 hg6 hat6; rw [List.nil_append] at ho6; have HO6 := Aside0.mk ho6; have HB6 := Aside0.mk hb6; obtain ⟨A6, c6, e6⟩ := Kd.R_slice ho6; subst e6; have hS6 := HS.out w6 hb6; have t0 : w6.cell? ⟨w.heap.size, 0, none⟩ = some (Value.int .i64 3) := (blk_cell hS6 0).trans rfl; have t1 : w6.cell? ⟨w.heap.size, 1, none⟩ = some (Value.int .u64 n) := (blk_cell hS6 1).trans rfl; have t2 : w6.cell? ⟨w.heap.size, 2, none⟩ = some (Value.int .i64 co) := (blk_cell hS6 2).trans rfl; have t3 : w6.cell? ⟨w.heap.size, 3, none⟩ = some (Value.int .i64 li) := (blk_cell hS6 3).trans rfl; have t4 : w6.cell? ⟨w.heap.size, 4, none⟩ = some (Value.int .i64 sz) := (blk_cell hS6 4).trans rfl; have t5 : w6.cell? ⟨w.heap.size, 5, none⟩ = some (Value.string tx) := (blk_cell hS6 5).trans rfl; have t6 : w6.cell? ⟨w.heap.size, 6, none⟩ = some (Value.slice A0 D.length k0) := (blk_cell hS6 6).trans rfl; have t7 : w6.cell? ⟨w.heap.size, 7, none⟩ = some (Value.slice A1 n1 k1) := (blk_cell hS6 7).trans rfl; have f0 := blk_frozen hS6 0; have f1 := blk_frozen hS6 1; have f6 := blk_frozen hS6 6; have hR6 := HRR.out w6 hb6; have u0 : w6.cell? ⟨w.heap.size + 1 + 1, 0, none⟩ = some (Value.int .i64 0) := (blk_cell hR6 0).trans rfl; have u1 : w6.cell? ⟨w.heap.size + 1 + 1, 1, none⟩ = some (Value.int .u64 0) := (blk_cell hR6 1).trans rfl; have u2 : w6.cell? ⟨w.heap.size + 1 + 1, 2, none⟩ = some (Value.int .i64 0) := (blk_cell hR6 2).trans rfl; have u3 : w6.cell? ⟨w.heap.size + 1 + 1, 3, none⟩ = some (Value.int .i64 0) := (blk_cell hR6 3).trans rfl; have u4 : w6.cell? ⟨w.heap.size + 1 + 1, 4, none⟩ = some (Value.int .i64 0) := (blk_cell hR6 4).trans rfl; have u5 : w6.cell? ⟨w.heap.size + 1 + 1, 5, none⟩ = some (Value.string ⟨#[]⟩) := (blk_cell hR6 5).trans rfl; have u6 : w6.cell? ⟨w.heap.size + 1 + 1, 6, none⟩ = some (Value.slice none 0 0) := (blk_cell hR6 6).trans rfl; have u7 : w6.cell? ⟨w.heap.size + 1 + 1, 7, none⟩ = some (Value.slice none 0 0) := (blk_cell hR6 7).trans rfl; have g0 := blk_frozen hR6 0; have g1 := blk_frozen hR6 1; have g2 := blk_frozen hR6 2; have g3 := blk_frozen hR6 3; have g4 := blk_frozen hR6 4; have g5 := blk_frozen hR6 5; have g6 := blk_frozen hR6 6; have g7 := blk_frozen hR6 7; have HR6 := Aside0.mk hR6; clear ho6 hb6 hg6 hat6 hS6 hR6 HO5))
  have key : ∀ W, (∀ k, W3.heap.size ≤ k → W.heap[k]? = w6.heap[k]?) → (D ++ [c]).length ≤ c6 ∧ Kd.C (Kd.int .u8) W A6 (D ++ [c]).length (D ++ [c]) := fun W hW => by
    obtain ⟨_, _, q, hle, hC⟩ := Kd.R_reads (Kd.R_move (Kd.R_bound HO6.out) (fun k hk => hW k hk.2.1))
    cases q
    exact ⟨hle, hC⟩
  have hkk : ∀ k, W3.heap.size ≤ k → k ≠ w.heap.size ∧ k ≠ w.heap.size + 1 + 1 := fun k hk => by have := hlt3.out; omega
  have hRS : w.heap.size + 1 + 1 ≠ w.heap.size := by omega
  refine bodyPost_ret (results_ct rfl _ _ (w.heap.size + 1 + 1) 39 _ (0, 0) _ (by rfl) (by exact put8 (by rw [farH _ _ _ _ _ hRS, farH _ _ _ _ _ hRS]; exact HR6.out) _ _ _ _ _ _ _ _) Tryd.underlying39 rfl (by kernel_rfl)) rfl ⟨A6, c6, by rw [List.length_append]; rfl, (key w6 (fun _ _ => rfl)).1, (key _ (fun k hk => ?_)).2, ?_⟩
  · obtain ⟨q1, q2⟩ := hkk k hk
    rw [farH _ _ _ _ _ q2, farH _ _ _ _ _ q2, farH _ _ _ _ _ q2, farH _ _ _ _ _ q2, farH _ _ _ _ _ q2, farH _ _ _ _ _ q2, farH _ _ _ _ _ q2, farH _ _ _ _ _ q2]
    rw [farH _ _ _ _ _ q1, farH _ _ _ _ _ q1]
  · have hbb := B3.out.trans (HB6.out.mono B3.out.size)
    repeat (refine bset ?_ _ _ _ (by omega))
    exact hbb
end Go.Proofs.YtmmbpbgcobmifaaDoorH
end
section
namespace Go.Proofs.YtmmbpbgcobmifaaDoor.Pr
end Go.Proofs.YtmmbpbgcobmifaaDoor.Pr
namespace Go.Proofs.YtmmbpbgcobmifaaDoorH
set_option linter.unusedVariables false
set_option linter.unusedSimpArgs false
open Go Go.RowKit Go.Proofs.YtmmbpbgcobmifaaDoorW.PrintWords Go.Proofs.YtmmbpbgcobmifaaDoorW.PrintLast Go.Proofs.YtmmbpbgcobmifaaDoorW.PrintMore Go.Proofs.YtmmbpbgcobmifaaDoor.Pr Go.Proofs.YtmmbpbgcobmifaaDoorM
theorem digit8 {c : Int} (hc : 0 ≤ c ∧ c ≤ 255) : catchpitref01_Digit.f 40 c = some (digI c) := all256 (p := fun c => catchpitref01_Digit.f 40 c = some (digI c)) (by decide +kernel) hc
theorem digit8_le {c : Int} (hc : 0 ≤ c ∧ c ≤ 255) : digI c ≤ 15 := all256 (p := fun c => digI c ≤ 15) (by decide +kernel) hc
theorem byte8 {c : Int} (hc : 0 ≤ c ∧ c ≤ 255) : catchpitref02_Byte.f c = some (textB c) := all256 (p := fun c => catchpitref02_Byte.f c = some (textB c)) (by decide +kernel) hc
theorem token8 {c : Int} (hc : 0 ≤ c ∧ c ≤ 255) : catchpitref02_Token.f 40 (strOfNums [c]) = some (tokI c) := all256 (p := fun c => catchpitref02_Token.f 40 (strOfNums [c]) = some (tokI c)) (by decide +kernel) hc
structure Inv8 (X : MSt Fld) : Prop where
  pl : X.place ≤ 10
  n : X.n ≤ 4611686018427387903
  co : X.count ≤ 1000000
  li : X.lines ≤ 1000000
  sz : X.size ≤ 1000000
  tx : X.text.length ≤ 1000000
  dl : X.data.length ≤ 1000000
  fl : X.fields.length ≤ 1000000
  n3 : X.place = 3 → 0 < X.n
  t9 : X.place = 9 → 0 < X.text.length
abbrev stM (X : MSt Fld) (dv fv : Value) : Value := stV (X.place : Int) (X.n : Int) (X.count : Int) (X.lines : Int) (X.size : Int) (strOfNums X.text) dv fv
def Post8 (A1 : Option Addr) (E : MEnv Fld) (X : MSt Fld) (c : Int) (w : World) (e : Ending) (w' : World) : Prop := ∃ (Y : MSt Fld) (er : Int) (B0 B1 : Option Addr) (j0 j1 : Nat), e = .returned (.tuple #[stM Y (.slice B0 Y.data.length j0) (.slice B1 Y.fields.length j1), .int .i64 er]) ∧ Y.data.length ≤ j0 ∧ Y.fields.length ≤ j1 ∧ Kd.C (Kd.int .u8) w' B0 Y.data.length Y.data ∧ Kd.C k53 w' B1 Y.fields.length Y.fields ∧ Below w.heap.size w w' ∧ (mstep E X c = .ok Y ∧ er = 0 ∨ mstep E X c = .error er ∧ er ≠ 0) ∧ (B1 = A1 ∨ ∀ ad, B1 = some ad → w.heap.size ≤ ad.block)
theorem post_same {E : MEnv Fld} {X : MSt Fld} {c : Int} {F : Nat} {args : Array Value} {w : World} {A0 A1 : Option Addr} {k0 k1 : Nat} (Y : MSt Fld) (er : Int) (hd : Y.data = X.data) (hf : Y.fields = X.fields) (hr : Kd.C (Kd.int .u8) w A0 X.data.length X.data) (hk : X.data.length ≤ k0) (hr1 : Kd.C k53 w A1 X.fields.length X.fields) (hk1 : X.fields.length ≤ k1) (hm : mstep E X c = .ok Y ∧ er = 0 ∨ mstep E X c = .error er ∧ er ≠ 0)
    (h : Calls Tryd.prog F args w fun e w' => e = .returned (.tuple #[stM Y (.slice A0 X.data.length k0) (.slice A1 X.fields.length k1), .int .i64 er]) ∧ Below w.heap.size w w') : Calls Tryd.prog F args w (Post8 A1 E X c w) := by
  refine h.mono ?_
  rintro e w' ⟨rfl, hb⟩
  exact ⟨Y, er, A0, A1, k0, k1, by rw [hd, hf], by rw [hd]; exact hk, by rw [hf]; exact hk1, by rw [hd]; exact Kd.C_below hr hb, by rw [hf]; exact Kd.C_below hr1 hb, hb, hm, .inl rfl⟩
end Go.Proofs.YtmmbpbgcobmifaaDoorH
end
section
namespace Go.Proofs.YtmmbpbgcobmifaaDoor.Pr
end Go.Proofs.YtmmbpbgcobmifaaDoor.Pr
namespace Go.Proofs.YtmmbpbgcobmifaaDoorH
set_option linter.unusedVariables false
set_option linter.unusedSimpArgs false
open Go Go.RowKit Go.Proofs.YtmmbpbgcobmifaaDoorW.PrintWords Go.Proofs.YtmmbpbgcobmifaaDoorW.PrintLast Go.Proofs.YtmmbpbgcobmifaaDoorW.PrintMore Go.Proofs.YtmmbpbgcobmifaaDoor.Pr Go.Proofs.YtmmbpbgcobmifaaDoorM
section
variable {e0 e1 e2 : Nat} {n co li sz : Nat} {tx D : List Int} {F : List Fld} {A0 A1 : Option Addr} {k0 k1 : Nat} {c : Int} {w : World}
theorem s8_4 (hr : Kd.C (Kd.int .u8) w A0 D.length D) (hk : D.length ≤ k0) (hr1 : Kd.C k53 w A1 F.length F) (hk1 : F.length ≤ k1) (hG : TabOk w) (hc : 0 ≤ c ∧ c ≤ 255) :
    Calls Tryd.prog 40 #[stM ⟨4, n, co, li, sz, tx, D, F⟩ (.slice A0 D.length k0) (.slice A1 F.length k1), .int .u8 c, .agg #[.int .i64 (e0 : Int), .int .i64 (e1 : Int), .int .i64 (e2 : Int)]] w (Post8 A1 (envM e0 e1 e2) ⟨4, n, co, li, sz, tx, D, F⟩ c w) := by
  by_cases h : c = 13
  · exact post_same ⟨5, n, co, li, sz, tx, D, F⟩ 0 rfl rfl hr hk hr1 hk1 (.inl ⟨(by exact (step4 rfl).trans (if_neg (by simpa using h))), rfl⟩) (st8_4b _ _ _ _ _ _ _ _ _ _ _ _ _ _ _ _ hG (by simp [h]))
  · exact post_same ⟨4, n, co, li, sz, tx, D, F⟩ 2 rfl rfl hr hk hr1 hk1 (.inr ⟨(by exact (step4 rfl).trans (if_pos h)), by decide⟩) (st8_4a _ _ _ _ _ _ _ _ _ _ _ _ _ _ _ _ hG (by simp [h]))
theorem s8_5 (hr : Kd.C (Kd.int .u8) w A0 D.length D) (hk : D.length ≤ k0) (hr1 : Kd.C k53 w A1 F.length F) (hk1 : F.length ≤ k1) (hG : TabOk w) (hc : 0 ≤ c ∧ c ≤ 255) :
    Calls Tryd.prog 40 #[stM ⟨5, n, co, li, sz, tx, D, F⟩ (.slice A0 D.length k0) (.slice A1 F.length k1), .int .u8 c, .agg #[.int .i64 (e0 : Int), .int .i64 (e1 : Int), .int .i64 (e2 : Int)]] w (Post8 A1 (envM e0 e1 e2) ⟨5, n, co, li, sz, tx, D, F⟩ c w) := by
  by_cases h : c = 10
  · exact post_same ⟨0, n, 0, li, sz, tx, D, F⟩ 0 rfl rfl hr hk hr1 hk1 (.inl ⟨(by exact (step5 rfl).trans (if_neg (by simpa using h))), rfl⟩) (st8_5b _ _ _ _ _ _ _ _ _ _ _ _ _ _ _ _ hG (by simp [h]))
  · exact post_same ⟨5, n, co, li, sz, tx, D, F⟩ 2 rfl rfl hr hk hr1 hk1 (.inr ⟨(by exact (step5 rfl).trans (if_pos h)), by decide⟩) (st8_5a _ _ _ _ _ _ _ _ _ _ _ _ _ _ _ _ hG (by simp [h]))
theorem s8_10 (hr : Kd.C (Kd.int .u8) w A0 D.length D) (hk : D.length ≤ k0) (hr1 : Kd.C k53 w A1 F.length F) (hk1 : F.length ≤ k1) (hG : TabOk w) (hc : 0 ≤ c ∧ c ≤ 255) :
    Calls Tryd.prog 40 #[stM ⟨10, n, co, li, sz, tx, D, F⟩ (.slice A0 D.length k0) (.slice A1 F.length k1), .int .u8 c, .agg #[.int .i64 (e0 : Int), .int .i64 (e1 : Int), .int .i64 (e2 : Int)]] w (Post8 A1 (envM e0 e1 e2) ⟨10, n, co, li, sz, tx, D, F⟩ c w) := by
  by_cases h : c = 10
  · exact post_same ⟨11, n, co, li, sz, tx, D, F⟩ 0 rfl rfl hr hk hr1 hk1 (.inl ⟨(by exact (step10 rfl).trans (if_neg (by simpa using h))), rfl⟩) (st8_10b _ _ _ _ _ _ _ _ _ _ _ _ _ _ _ _ hG (by simp [h]))
  · exact post_same ⟨10, n, co, li, sz, tx, D, F⟩ 2 rfl rfl hr hk hr1 hk1 (.inr ⟨(by exact (step10 rfl).trans (if_pos h)), by decide⟩) (st8_10a _ _ _ _ _ _ _ _ _ _ _ _ _ _ _ _ hG (by simp [h]))
theorem s8_2 (hr : Kd.C (Kd.int .u8) w A0 D.length D) (hk : D.length ≤ k0) (hr1 : Kd.C k53 w A1 F.length F) (hk1 : F.length ≤ k1) (hG : TabOk w) (hc : 0 ≤ c ∧ c ≤ 255) :
    Calls Tryd.prog 40 #[stM ⟨2, n, co, li, sz, tx, D, F⟩ (.slice A0 D.length k0) (.slice A1 F.length k1), .int .u8 c, .agg #[.int .i64 (e0 : Int), .int .i64 (e1 : Int), .int .i64 (e2 : Int)]] w (Post8 A1 (envM e0 e1 e2) ⟨2, n, co, li, sz, tx, D, F⟩ c w) := by
  by_cases h : c = 10
  · by_cases h0 : 0 < n
    · exact post_same ⟨3, n, co, li, sz, tx, D, F⟩ 0 rfl rfl hr hk hr1 hk1 (.inl ⟨(by exact (step2 rfl).trans ((if_neg (by simpa using h)).trans (if_pos h0))), rfl⟩) (st8_2b _ _ _ _ _ _ _ _ _ _ _ _ _ _ _ _ hG (by simp [h]) (show (0 : Int) < (n : Int) by omega))
    · obtain rfl : n = 0 := by omega
      exact post_same ⟨6, 0, co, li, sz, tx, D, F⟩ 0 rfl rfl hr hk hr1 hk1 (.inl ⟨(by exact (step2 rfl).trans ((if_neg (by simpa using h)).trans (if_neg h0))), rfl⟩) (st8_2c _ _ _ _ _ _ _ _ _ _ _ _ _ _ _ hG (by simp [h]))
  · exact post_same ⟨2, n, co, li, sz, tx, D, F⟩ 2 rfl rfl hr hk hr1 hk1 (.inr ⟨(by exact (step2 rfl).trans (if_pos h)), by decide⟩) (st8_2a _ _ _ _ _ _ _ _ _ _ _ _ _ _ _ _ hG (by simp [h]))
theorem s8_1 (hr : Kd.C (Kd.int .u8) w A0 D.length D) (hk : D.length ≤ k0) (hr1 : Kd.C k53 w A1 F.length F) (hk1 : F.length ≤ k1) (hG : TabOk w) (hc : 0 ≤ c ∧ c ≤ 255) (hco : co ≤ 1000000) :
    Calls Tryd.prog 40 #[stM ⟨1, n, co, li, sz, tx, D, F⟩ (.slice A0 D.length k0) (.slice A1 F.length k1), .int .u8 c, .agg #[.int .i64 (e0 : Int), .int .i64 (e1 : Int), .int .i64 (e2 : Int)]] w (Post8 A1 (envM e0 e1 e2) ⟨1, n, co, li, sz, tx, D, F⟩ c w) := by
  have hb := byte8 hc
  by_cases h : c = 13
  · exact post_same ⟨2, n, co, li, sz, tx, D, F⟩ 0 rfl rfl hr hk hr1 hk1 (.inl ⟨(by exact (step1 rfl).trans (if_pos h)), rfl⟩) (st8_1a _ _ _ _ _ _ _ _ _ _ _ _ _ _ _ _ hG (by simp [h]))
  · cases ht : textB c with
    | false =>
      rw [ht] at hb
      exact post_same ⟨1, n, co, li, sz, tx, D, F⟩ 2 rfl rfl hr hk hr1 hk1 (.inr ⟨(by exact (step1 rfl).trans ((if_neg h).trans (if_pos (show (envM e0 e1 e2).tx c = false from ht)))), by decide⟩) (st8_1b _ _ _ _ _ _ _ _ _ _ _ _ _ _ _ _ hG (by simp [h]) hb)
    | true =>
      rw [ht] at hb
      by_cases h2 : e0 ≤ co
      · exact post_same ⟨1, n, co, li, sz, tx, D, F⟩ 5 rfl rfl hr hk hr1 hk1 (.inr ⟨(by exact (step1 rfl).trans ((if_neg h).trans ((if_neg (show ¬ (envM e0 e1 e2).tx c = false from fun q => by rw [show (envM e0 e1 e2).tx c = textB c from rfl, ht] at q; cases q)).trans (if_pos h2)))), by decide⟩) (st8_1c _ _ _ _ _ _ _ _ _ _ _ _ _ _ _ _ hG (by simp [h]) hb (show (e0 : Int) ≤ (co : Int) by omega))
      · exact post_same ⟨1, n, co + 1, li, sz, tx, D, F⟩ 0 rfl rfl hr hk hr1 hk1 (.inl ⟨(by exact (step1 rfl).trans ((if_neg h).trans ((if_neg (show ¬ (envM e0 e1 e2).tx c = false from fun q => by rw [show (envM e0 e1 e2).tx c = textB c from rfl, ht] at q; cases q)).trans (if_neg h2)))), rfl⟩) (st8_1d _ _ _ _ _ _ _ _ _ _ _ _ _ _ _ _ hG (by simp [h]) hb (show ¬ (e0 : Int) ≤ (co : Int) by omega) (show IntKind.i64.wrap ((co : Int) + 1) = (co : Int) + 1 by unfold IntKind.wrap; simp [IntKind.bits, IntKind.signed]; omega))
theorem s8_0 (hr : Kd.C (Kd.int .u8) w A0 D.length D) (hk : D.length ≤ k0) (hr1 : Kd.C k53 w A1 F.length F) (hk1 : F.length ≤ k1) (hG : TabOk w) (hc : 0 ≤ c ∧ c ≤ 255) (hco : co ≤ 1000000) (hn : n ≤ 4611686018427387903) :
    Calls Tryd.prog 40 #[stM ⟨0, n, co, li, sz, tx, D, F⟩ (.slice A0 D.length k0) (.slice A1 F.length k1), .int .u8 c, .agg #[.int .i64 (e0 : Int), .int .i64 (e1 : Int), .int .i64 (e2 : Int)]] w (Post8 A1 (envM e0 e1 e2) ⟨0, n, co, li, sz, tx, D, F⟩ c w) := by
  have hd := digit8 hc
  have hle := digit8_le hc
  by_cases h0 : 0 ≤ digI c
  · obtain ⟨d, hdd⟩ := Int.eq_ofNat_of_zero_le h0
    have hwd : IntKind.u64.wrap (d : Int) = (d : Int) := by rw [IntKind.wrap_u64]; omega
    have hq1 : IntKind.u64.wrap (4611686018427387903 - (d : Int)) = 4611686018427387903 - (d : Int) := by rw [IntKind.wrap_u64]; omega
    have hq2 : IntKind.u64.wrap (Int.tdiv (4611686018427387903 - (d : Int)) 16) = (((4611686018427387903 - d) / 16 : Nat) : Int) := by
      rw [Int.tdiv_eq_ediv_of_nonneg (by omega), IntKind.wrap_u64]; omega
    by_cases h16 : co = 16
    · subst h16
      exact post_same ⟨0, n, 16, li, sz, tx, D, F⟩ 3 rfl rfl hr hk hr1 hk1 (.inr ⟨(by exact (step0 rfl).trans ((if_pos h0).trans (if_pos (.inl rfl)))), by decide⟩) (st8_0a _ _ _ _ _ _ _ _ _ _ _ _ _ _ _ hG 40 _ hd h0)
    · rw [hdd] at hd
      by_cases hq : (4611686018427387903 - d) / 16 < n
      · exact post_same ⟨0, n, co, li, sz, tx, D, F⟩ 3 rfl rfl hr hk hr1 hk1 (.inr ⟨(by have q := step0 (E := envM e0 e1 e2) (s := ⟨0, n, co, li, sz, tx, D, F⟩) (c := c) rfl; rw [show (envM e0 e1 e2).dg c = (d : Int) from hdd] at q; exact q.trans ((if_pos (by omega)).trans (if_pos (.inr (show (4611686018427387903 - ((d : Int)).toNat) / 16 < n from hq))))), by decide⟩) (st8_0b _ _ _ _ _ _ _ _ _ _ _ _ _ _ _ _ hG 40 _ hd (show (0 : Int) ≤ (d : Int) by omega) (show ((co : Int) == 16) = false by rw [beq_eq_false_iff_ne]; omega) _ hwd hq1 hq2 (show ((((4611686018427387903 - d) / 16 : Nat)) : Int) < (n : Int) by omega))
      · exact post_same ⟨0, 16 * n + d, co + 1, li, sz, tx, D, F⟩ 0 rfl rfl hr hk hr1 hk1 (.inl ⟨(by have q := step0 (E := envM e0 e1 e2) (s := ⟨0, n, co, li, sz, tx, D, F⟩) (c := c) rfl; rw [show (envM e0 e1 e2).dg c = (d : Int) from hdd] at q; exact q.trans ((if_pos (by omega)).trans (if_neg (fun hh => hh.elim (fun hh => h16 hh) (fun hh => hq hh))))), rfl⟩) (st8_0c _ _ _ _ _ _ _ _ _ _ _ _ _ _ _ _ hG 40 _ hd (show (0 : Int) ≤ (d : Int) by omega) (show ((co : Int) == 16) = false by rw [beq_eq_false_iff_ne]; omega) _ hwd hq1 hq2 (show ¬ ((((4611686018427387903 - d) / 16 : Nat)) : Int) < (n : Int) by omega) (show IntKind.u64.wrap (16 * (n : Int)) = 16 * (n : Int) by rw [IntKind.wrap_u64]; omega) (show IntKind.u64.wrap (16 * (n : Int) + (d : Int)) = 16 * (n : Int) + (d : Int) by rw [IntKind.wrap_u64]; omega) (show IntKind.i64.wrap ((co : Int) + 1) = (co : Int) + 1 by unfold IntKind.wrap; simp [IntKind.bits, IntKind.signed]; omega))
  · by_cases hc0 : co = 0
    · subst hc0
      exact post_same ⟨0, n, 0, li, sz, tx, D, F⟩ 2 rfl rfl hr hk hr1 hk1 (.inr ⟨(by exact (step0 rfl).trans ((if_neg h0).trans (if_pos (.inl rfl)))), by decide⟩) (st8_0d _ _ _ _ _ _ _ _ _ _ _ _ _ _ _ hG 40 _ hd h0)
    · by_cases h13 : c = 13
      · exact post_same ⟨2, n, co, li, sz, tx, D, F⟩ 0 rfl rfl hr hk hr1 hk1 (.inl ⟨(by exact (step0 rfl).trans ((if_neg h0).trans ((if_neg (fun hh => hh.elim (fun hh => hc0 hh) (fun hh => hh.2 h13))).trans (if_pos h13)))), rfl⟩) (st8_0f _ _ _ _ _ _ _ _ _ _ _ _ _ _ _ _ hG 40 _ hd h0 (show ((co : Int) == 0) = false by rw [beq_eq_false_iff_ne]; omega) (by rw [h13]; rfl) (by simp [h13]) (by simp [h13]))
      · by_cases h59 : c = 59
        · by_cases he : e0 < 1
          · exact post_same ⟨0, n, co, li, sz, tx, D, F⟩ 5 rfl rfl hr hk hr1 hk1 (.inr ⟨(by exact (step0 rfl).trans ((if_neg h0).trans ((if_neg (fun hh => hh.elim (fun hh => hc0 hh) (fun hh => hh.1 h59))).trans ((if_neg h13).trans (if_pos he))))), by decide⟩) (st8_0g _ _ _ _ _ _ _ _ _ _ _ _ _ _ _ _ hG 40 _ hd h0 (show ((co : Int) == 0) = false by rw [beq_eq_false_iff_ne]; omega) (by simp [h59]) (by simp [h13]) (show (e0 : Int) < 1 by omega))
          · exact post_same ⟨1, n, 1, li, sz, tx, D, F⟩ 0 rfl rfl hr hk hr1 hk1 (.inl ⟨(by exact (step0 rfl).trans ((if_neg h0).trans ((if_neg (fun hh => hh.elim (fun hh => hc0 hh) (fun hh => hh.1 h59))).trans ((if_neg h13).trans (if_neg he))))), rfl⟩) (st8_0h _ _ _ _ _ _ _ _ _ _ _ _ _ _ _ _ hG 40 _ hd h0 (show ((co : Int) == 0) = false by rw [beq_eq_false_iff_ne]; omega) (by simp [h59]) (by simp [h13]) (show ¬ (e0 : Int) < 1 by omega))
        · exact post_same ⟨0, n, co, li, sz, tx, D, F⟩ 2 rfl rfl hr hk hr1 hk1 (.inr ⟨(by exact (step0 rfl).trans ((if_neg h0).trans (if_pos (.inr ⟨h59, h13⟩)))), by decide⟩) (st8_0e _ _ _ _ _ _ _ _ _ _ _ _ _ _ _ _ hG 40 _ hd h0 (show ((co : Int) == 0) = false by rw [beq_eq_false_iff_ne]; omega) (by simp [h59]) (by simp [h13]))
end
end Go.Proofs.YtmmbpbgcobmifaaDoorH
end
section
namespace Go.Proofs.YtmmbpbgcobmifaaDoor.Pr
end Go.Proofs.YtmmbpbgcobmifaaDoor.Pr
namespace Go.Proofs.YtmmbpbgcobmifaaDoorH
set_option linter.unusedVariables false
set_option linter.unusedSimpArgs false
open Go Go.RowKit Go.Proofs.YtmmbpbgcobmifaaDoorW.PrintWords Go.Proofs.YtmmbpbgcobmifaaDoorW.PrintLast Go.Proofs.YtmmbpbgcobmifaaDoorW.PrintMore Go.Proofs.YtmmbpbgcobmifaaDoor.Pr Go.Proofs.YtmmbpbgcobmifaaDoorM
section
variable {e0 e1 e2 : Nat} {n co li sz : Nat} {tx D : List Int} {F : List Fld} {A0 A1 : Option Addr} {k0 k1 : Nat} {c : Int} {w : World}
theorem wrap_nat {a : Nat} (h : a ≤ 1000000) : IntKind.i64.wrap ((a : Int) + 1) = (a : Int) + 1 := by
  unfold IntKind.wrap
  simp [IntKind.bits, IntKind.signed]
  omega
theorem fin8 {Fn : Nat} {args : Array Value} (p li1 p2 li2 : Nat) (hX : mstep (envM e0 e1 e2) ⟨p, n, co, li1, sz, tx, D, F⟩ c = mline (envM e0 e1 e2) ⟨p2, n, co, li2, sz, tx, D, F⟩ c) (h10 : c ≠ 10) (htx : tx.length ≤ 1000000) (hsz : sz ≤ 1000000)
    (hr : Kd.C (Kd.int .u8) w A0 D.length D) (hk : D.length ≤ k0) (hr1 : Kd.C k53 w A1 F.length F) (hk1 : F.length ≤ k1)
    (H : ∀ (p3 sz3 er : Int) (tx3 : ByteArray), (∀ W, Below w.heap.size w W → Calls Tryd.prog 65 #[stV (p2 : Int) (n : Int) (co : Int) (li2 : Int) (sz : Int) (strOfNums tx) (.slice A0 D.length k0) (.slice A1 F.length k1), .int .u8 c, .agg #[.int .i64 (e0 : Int), .int .i64 (e1 : Int), .int .i64 (e2 : Int)]] W fun e w' => e = .returned (.tuple #[stV p3 (n : Int) (co : Int) (li2 : Int) sz3 tx3 (.slice A0 D.length k0) (.slice A1 F.length k1), .int .i64 er]) ∧ Below W.heap.size W w') →
      Calls Tryd.prog Fn args w fun e w' => e = .returned (.tuple #[stV p3 (n : Int) (co : Int) (li2 : Int) sz3 tx3 (.slice A0 D.length k0) (.slice A1 F.length k1), .int .i64 er]) ∧ Below w.heap.size w w') :
    Calls Tryd.prog Fn args w (Post8 A1 (envM e0 e1 e2) ⟨p, n, co, li1, sz, tx, D, F⟩ c w) := by
  by_cases hz : e2 ≤ sz
  · exact post_same ⟨p2, n, co, li2, sz, tx, D, F⟩ 5 rfl rfl hr hk hr1 hk1 (.inr ⟨hX.trans (line_full hz), by decide⟩) (H _ _ _ _ (fun W hW => ln8_a _ _ _ _ _ _ _ _ _ _ _ _ _ _ _ _ W (show (e2 : Int) ≤ (sz : Int) by omega)))
  · have ht := strOfNums_append tx [c]
    have hs : (strOfNums tx).size ≤ 1000000 := by rw [Go.strOfNums_size]; exact htx
    refine post_same ⟨p2, n, co, li2, sz + 1, tx ++ [c], D, F⟩ 0 rfl rfl hr hk hr1 hk1 (.inl ⟨hX.trans (line_on (by show sz < e2; omega) (fun q => h10 q.1)), rfl⟩) (H _ _ _ _ (fun W hW => ?_))
    show Calls _ _ _ _ fun e w' => e = .returned (.tuple #[stV (p2 : Int) (n : Int) (co : Int) (li2 : Int) ((sz : Int) + 1) (strOfNums (tx ++ [c])) (.slice A0 D.length k0) (.slice A1 F.length k1), .int .i64 0]) ∧ _
    rw [ht]
    exact ln8_b _ _ _ _ _ _ _ _ _ _ _ _ _ _ _ _ W (show ¬ (e2 : Int) ≤ (sz : Int) by omega) (by simp [h10]) (wrap_nat hsz) hs
theorem s8_7 (hr : Kd.C (Kd.int .u8) w A0 D.length D) (hk : D.length ≤ k0) (hr1 : Kd.C k53 w A1 F.length F) (hk1 : F.length ≤ k1) (hG : TabOk w) (hc : 0 ≤ c ∧ c ≤ 255) (htx : tx.length ≤ 1000000) (hsz : sz ≤ 1000000) :
    Calls Tryd.prog 40 #[stM ⟨7, n, co, li, sz, tx, D, F⟩ (.slice A0 D.length k0) (.slice A1 F.length k1), .int .u8 c, .agg #[.int .i64 (e0 : Int), .int .i64 (e1 : Int), .int .i64 (e2 : Int)]] w (Post8 A1 (envM e0 e1 e2) ⟨7, n, co, li, sz, tx, D, F⟩ c w) := by
  have hb := token8 hc
  by_cases h : c = 58
  · have h10 : c ≠ 10 := by omega
    exact fin8 7 li 8 li ((step7 rfl).trans (if_pos h)) h10 htx hsz hr hk hr1 hk1 (fun p3 sz3 er tx3 HL => st8_7a _ _ _ _ _ _ _ _ _ _ _ _ _ _ _ _ _ _ _ _ hG (by simp [h]) HL)
  · cases ht : tokI c with
    | false =>
      rw [ht] at hb
      exact post_same ⟨7, n, co, li, sz, tx, D, F⟩ 2 rfl rfl hr hk hr1 hk1 (.inr ⟨(step7 rfl).trans ((if_neg h).trans (if_pos (show (envM e0 e1 e2).tk c = false from ht))), by decide⟩) (st8_7b _ _ _ _ _ _ _ _ _ _ _ _ _ _ _ _ hG (by simp [h]) 40 hb)
    | true =>
      rw [ht] at hb
      have h10 : c ≠ 10 := by rintro rfl; exact absurd ht (by decide +kernel)
      exact fin8 7 li 7 li ((step7 rfl).trans ((if_neg h).trans (if_neg (show ¬ (envM e0 e1 e2).tk c = false from fun q => by rw [show (envM e0 e1 e2).tk c = tokI c from rfl, ht] at q; cases q)))) h10 htx hsz hr hk hr1 hk1 (fun p3 sz3 er tx3 HL => st8_7c _ _ _ _ _ _ _ _ _ _ _ _ _ _ _ _ _ _ _ _ hG (by simp [h]) 40 hb HL)
theorem s8_8 (hr : Kd.C (Kd.int .u8) w A0 D.length D) (hk : D.length ≤ k0) (hr1 : Kd.C k53 w A1 F.length F) (hk1 : F.length ≤ k1) (hG : TabOk w) (hc : 0 ≤ c ∧ c ≤ 255) (htx : tx.length ≤ 1000000) (hsz : sz ≤ 1000000) :
    Calls Tryd.prog 40 #[stM ⟨8, n, co, li, sz, tx, D, F⟩ (.slice A0 D.length k0) (.slice A1 F.length k1), .int .u8 c, .agg #[.int .i64 (e0 : Int), .int .i64 (e1 : Int), .int .i64 (e2 : Int)]] w (Post8 A1 (envM e0 e1 e2) ⟨8, n, co, li, sz, tx, D, F⟩ c w) := by
  have hb := byte8 hc
  by_cases h : c = 13
  · have h10 : c ≠ 10 := by omega
    exact fin8 8 li 9 li ((step8 rfl).trans (if_pos h)) h10 htx hsz hr hk hr1 hk1 (fun p3 sz3 er tx3 HL => st8_8a _ _ _ _ _ _ _ _ _ _ _ _ _ _ _ _ _ _ _ _ hG (by simp [h]) HL)
  · cases ht : textB c with
    | false =>
      rw [ht] at hb
      exact post_same ⟨8, n, co, li, sz, tx, D, F⟩ 2 rfl rfl hr hk hr1 hk1 (.inr ⟨(step8 rfl).trans ((if_neg h).trans (if_pos (show (envM e0 e1 e2).tx c = false from ht))), by decide⟩) (st8_8b _ _ _ _ _ _ _ _ _ _ _ _ _ _ _ _ hG (by simp [h]) hb)
    | true =>
      rw [ht] at hb
      have h10 : c ≠ 10 := by rintro rfl; exact absurd ht (by decide +kernel)
      exact fin8 8 li 8 li ((step8 rfl).trans ((if_neg h).trans (if_neg (show ¬ (envM e0 e1 e2).tx c = false from fun q => by rw [show (envM e0 e1 e2).tx c = textB c from rfl, ht] at q; cases q)))) h10 htx hsz hr hk hr1 hk1 (fun p3 sz3 er tx3 HL => st8_8c _ _ _ _ _ _ _ _ _ _ _ _ _ _ _ _ _ _ _ _ hG (by simp [h]) hb HL)
theorem s8_6 (hr : Kd.C (Kd.int .u8) w A0 D.length D) (hk : D.length ≤ k0) (hr1 : Kd.C k53 w A1 F.length F) (hk1 : F.length ≤ k1) (hG : TabOk w) (hc : 0 ≤ c ∧ c ≤ 255) (htx : tx.length ≤ 1000000) (hsz : sz ≤ 1000000) (hli : li ≤ 1000000) :
    Calls Tryd.prog 40 #[stM ⟨6, n, co, li, sz, tx, D, F⟩ (.slice A0 D.length k0) (.slice A1 F.length k1), .int .u8 c, .agg #[.int .i64 (e0 : Int), .int .i64 (e1 : Int), .int .i64 (e2 : Int)]] w (Post8 A1 (envM e0 e1 e2) ⟨6, n, co, li, sz, tx, D, F⟩ c w) := by
  have hb := token8 hc
  by_cases h : c = 13
  · exact post_same ⟨10, n, co, li, sz, tx, D, F⟩ 0 rfl rfl hr hk hr1 hk1 (.inl ⟨(step6 rfl).trans (if_pos h), rfl⟩) (st8_6a _ _ _ _ _ _ _ _ _ _ _ _ _ _ _ _ hG (by simp [h]))
  · cases ht : tokI c with
    | false =>
      rw [ht] at hb
      exact post_same ⟨6, n, co, li, sz, tx, D, F⟩ 2 rfl rfl hr hk hr1 hk1 (.inr ⟨(step6 rfl).trans ((if_neg h).trans (if_pos (show (envM e0 e1 e2).tk c = false from ht))), by decide⟩) (st8_6b _ _ _ _ _ _ _ _ _ _ _ _ _ _ _ _ hG (by simp [h]) 40 hb)
    | true =>
      rw [ht] at hb
      by_cases h2 : e1 ≤ li
      · exact post_same ⟨6, n, co, li, sz, tx, D, F⟩ 5 rfl rfl hr hk hr1 hk1 (.inr ⟨(step6 rfl).trans ((if_neg h).trans ((if_neg (show ¬ (envM e0 e1 e2).tk c = false from fun q => by rw [show (envM e0 e1 e2).tk c = tokI c from rfl, ht] at q; cases q)).trans (if_pos h2))), by decide⟩) (st8_6c _ _ _ _ _ _ _ _ _ _ _ _ _ _ _ _ hG (by simp [h]) (show (e1 : Int) ≤ (li : Int) by omega) 40 hb)
      · have h10 : c ≠ 10 := by rintro rfl; exact absurd ht (by decide +kernel)
        exact fin8 6 li 7 (li + 1) ((step6 rfl).trans ((if_neg h).trans ((if_neg (show ¬ (envM e0 e1 e2).tk c = false from fun q => by rw [show (envM e0 e1 e2).tk c = tokI c from rfl, ht] at q; cases q)).trans (if_neg h2)))) h10 htx hsz hr hk hr1 hk1 (fun p3 sz3 er tx3 HL => st8_6d _ _ _ _ _ _ _ _ _ _ _ _ _ _ _ _ _ _ _ _ hG (by simp [h]) (show ¬ (e1 : Int) ≤ (li : Int) by omega) (wrap_nat hli) 40 hb HL)
end
end Go.Proofs.YtmmbpbgcobmifaaDoorH
end
section
namespace Go.Proofs.YtmmbpbgcobmifaaDoor.Pr
end Go.Proofs.YtmmbpbgcobmifaaDoor.Pr
namespace Go.Proofs.YtmmbpbgcobmifaaDoorH
set_option linter.unusedVariables false
set_option linter.unusedSimpArgs false
open Go Go.RowKit Go.Proofs.YtmmbpbgcobmifaaDoorW.PrintWords Go.Proofs.YtmmbpbgcobmifaaDoorW.PrintLast Go.Proofs.YtmmbpbgcobmifaaDoorW.PrintMore Go.Proofs.YtmmbpbgcobmifaaDoor.Pr Go.Proofs.YtmmbpbgcobmifaaDoorM
section
variable {e0 e1 e2 : Nat} {n co li sz : Nat} {tx D : List Int} {F : List Fld} {A0 A1 : Option Addr} {k0 k1 : Nat} {c : Int} {w : World}
theorem s8_3 (hr : Kd.C (Kd.int .u8) w A0 D.length D) (hk : D.length ≤ k0) (hr1 : Kd.C k53 w A1 F.length F) (hk1 : F.length ≤ k1) (hD : D.length ≤ 1000000) (h0 : 0 < n) (hn : n ≤ 4611686018427387903) :
    Calls Tryd.prog 40 #[stM ⟨3, n, co, li, sz, tx, D, F⟩ (.slice A0 D.length k0) (.slice A1 F.length k1), .int .u8 c, .agg #[.int .i64 (e0 : Int), .int .i64 (e1 : Int), .int .i64 (e2 : Int)]] w (Post8 A1 (envM e0 e1 e2) ⟨3, n, co, li, sz, tx, D, F⟩ c w) := by
  obtain ⟨m, rfl⟩ : ∃ m, n = m + 1 := ⟨n - 1, by omega⟩
  by_cases hm : m = 0
  · subst hm
    refine (st8_3a (co : Int) (li : Int) (sz : Int) (strOfNums tx) A0 A1 D F.length k0 k1 c (e0 : Int) (e1 : Int) (e2 : Int) w hr hk hD).mono ?_
    rintro e w' ⟨A2, k2, rfl, hle, hC, hb⟩
    exact ⟨⟨4, 0, co, li, sz, tx, D ++ [c], F⟩, 0, A2, A1, k2, k1, rfl, hle, hk1, hC, Kd.C_below hr1 hb, hb, .inl ⟨(step3 rfl).trans (if_pos rfl), rfl⟩, .inl rfl⟩
  · have e1' : ((m + 1 : Nat) : Int) - 1 = (m : Int) := by omega
    have h := st8_3b ((m + 1 : Nat) : Int) (co : Int) (li : Int) (sz : Int) (strOfNums tx) A0 A1 D F.length k0 k1 c (e0 : Int) (e1 : Int) (e2 : Int) w hr hk hD (by rw [e1', beq_eq_false_iff_ne]; omega) (by rw [e1', IntKind.wrap_u64]; omega)
    rw [e1'] at h
    refine h.mono ?_
    rintro e w' ⟨A2, k2, rfl, hle, hC, hb⟩
    exact ⟨⟨3, m, co, li, sz, tx, D ++ [c], F⟩, 0, A2, A1, k2, k1, rfl, hle, hk1, hC, Kd.C_below hr1 hb, hb, .inl ⟨(step3 rfl).trans (if_neg (show ¬ m + 1 - 1 = 0 by omega)), rfl⟩, .inl rfl⟩
theorem dropLast_extract (tx : List Int) : (strOfNums tx).extract 0 ((strOfNums tx).size - 1) = strOfNums tx.dropLast := by
  apply ByteArray.ext
  apply Array.toList_inj.1
  rw [strOfNums_data, Go.strOfNums_size, ByteArray.data_extract, Array.toList_extract, strOfNums_data, List.extract_eq_take_drop, List.dropLast_eq_take, List.map_take]
  simp
theorem s8_9 (hr : Kd.C (Kd.int .u8) w A0 D.length D) (hk : D.length ≤ k0) (hr1 : Kd.C k53 w A1 F.length F) (hk1 : F.length ≤ k1) (hG : TabOk w) (hc : 0 ≤ c ∧ c ≤ 255) (htx : tx.length ≤ 1000000) (hsz : sz ≤ 1000000) (hF : F.length ≤ 1000000) (ht0 : 0 < tx.length) :
    Calls Tryd.prog 40 #[stM ⟨9, n, co, li, sz, tx, D, F⟩ (.slice A0 D.length k0) (.slice A1 F.length k1), .int .u8 c, .agg #[.int .i64 (e0 : Int), .int .i64 (e1 : Int), .int .i64 (e2 : Int)]] w (Post8 A1 (envM e0 e1 e2) ⟨9, n, co, li, sz, tx, D, F⟩ c w) := by
  by_cases h : c = 10
  · subst h
    by_cases hz : e2 ≤ sz
    · exact post_same ⟨9, n, co, li, sz, tx, D, F⟩ 5 rfl rfl hr hk hr1 hk1 (.inr ⟨(step9 rfl).trans ((if_neg (by decide)).trans (line_full hz)), by decide⟩) (st8_9b _ _ _ _ _ _ _ _ _ _ _ _ _ _ _ _ _ _ _ _ hG (by decide) (fun W hW => ln8_a _ _ _ _ _ _ _ _ _ _ _ _ _ _ _ _ W (show (e2 : Int) ≤ (sz : Int) by omega)))
    · have hs : (strOfNums tx).size = tx.length := Go.strOfNums_size tx
      obtain ⟨K, hK⟩ := ref05_Parse (strOfNums tx.dropLast) (by rw [Go.strOfNums_size, List.length_dropLast]; omega)
      have hp := hK K (Nat.le_refl _)
      simp only at hp
      have hpf : (⟨parseF (strOfNums tx.dropLast), parseV (strOfNums tx.dropLast)⟩ : Fld) = pfM tx.dropLast := rfl
      have HL := fun W (hW : Below w.heap.size w W) => ln8_d (n : Int) (co : Int) (li : Int) (sz : Int) (strOfNums tx) A0 A1 D.length k0 k1 F 10 (e0 : Int) (e1 : Int) (e2 : Int) W (Kd.C_below hr1 hW) hk1 (hG.below hW) (show ¬ (e2 : Int) ≤ (sz : Int) by omega) (by decide) (wrap_nat hsz) (by omega) (by omega) hF K _ _ _ (by rw [dropLast_extract]; exact hp)
      rw [hpf] at HL
      refine (st8_9d (n : Int) (co : Int) (li : Int) (sz : Int) (strOfNums tx) A0 A1 D.length k0 k1 F (F ++ [pfM tx.dropLast]) 10 (e0 : Int) (e1 : Int) (e2 : Int) w (by decide) (by rw [List.length_append]; simp) HL).mono ?_
      rintro e w' ⟨A2, k2, rfl, hle, hC, hb, hfr⟩
      exact ⟨⟨6, n, co, li, sz + 1, [], D, F ++ [pfM tx.dropLast]⟩, 0, A0, A2, k0, k2, rfl, hk, hle, Kd.C_below hr hb, hC, hb, .inl ⟨(step9 rfl).trans ((if_neg (by decide)).trans (line_end (by show sz < e2; omega) rfl)), rfl⟩, .inr hfr⟩
  · exact post_same ⟨9, n, co, li, sz, tx, D, F⟩ 2 rfl rfl hr hk hr1 hk1 (.inr ⟨(step9 rfl).trans (if_pos h), by decide⟩) (st8_9a _ _ _ _ _ _ _ _ _ _ _ _ _ _ _ _ hG (by simp [h]))
end
theorem step8_calls (e0 e1 e2 : Nat) (X : MSt Fld) (hX : Inv8 X) (A0 A1 : Option Addr) (k0 k1 : Nat) (c : Int) (w : World) (hr : Kd.C (Kd.int .u8) w A0 X.data.length X.data) (hk : X.data.length ≤ k0) (hr1 : Kd.C k53 w A1 X.fields.length X.fields) (hk1 : X.fields.length ≤ k1) (hG : TabOk w) (hc : 0 ≤ c ∧ c ≤ 255) :
    Calls Tryd.prog 40 #[stM X (.slice A0 X.data.length k0) (.slice A1 X.fields.length k1), .int .u8 c, .agg #[.int .i64 (e0 : Int), .int .i64 (e1 : Int), .int .i64 (e2 : Int)]] w (Post8 A1 (envM e0 e1 e2) X c w) := by
  obtain ⟨p, n, co, li, sz, tx, D, F⟩ := X
  obtain ⟨q1, q2, q3, q4, q5, q6, q7, q8, q9, q10⟩ := hX
  dsimp only at q1 q2 q3 q4 q5 q6 q7 q8 q9 q10 hr hk hr1 hk1
  have hp : p = 0 ∨ p = 1 ∨ p = 2 ∨ p = 3 ∨ p = 4 ∨ p = 5 ∨ p = 6 ∨ p = 7 ∨ p = 8 ∨ p = 9 ∨ p = 10 := by omega
  rcases hp with rfl | rfl | rfl | rfl | rfl | rfl | rfl | rfl | rfl | rfl | rfl
  · exact s8_0 hr hk hr1 hk1 hG hc q3 q2
  · exact s8_1 hr hk hr1 hk1 hG hc q3
  · exact s8_2 hr hk hr1 hk1 hG hc
  · exact s8_3 hr hk hr1 hk1 q7 (q9 rfl) q2
  · exact s8_4 hr hk hr1 hk1 hG hc
  · exact s8_5 hr hk hr1 hk1 hG hc
  · exact s8_6 hr hk hr1 hk1 hG hc q6 q5 q4
  · exact s8_7 hr hk hr1 hk1 hG hc q6 q5
  · exact s8_8 hr hk hr1 hk1 hG hc q6 q5
  · exact s8_9 hr hk hr1 hk1 hG hc q6 q5 q8 (q10 rfl)
  · exact s8_10 hr hk hr1 hk1 hG hc
end Go.Proofs.YtmmbpbgcobmifaaDoorH
end
section
namespace Go.Proofs.YtmmbpbgcobmifaaDoor.Pr
end Go.Proofs.YtmmbpbgcobmifaaDoor.Pr
namespace Go.Proofs.YtmmbpbgcobmifaaDoorH
set_option linter.unusedVariables false
set_option linter.unusedSimpArgs false
open Go.RowKit Go.Proofs.YtmmbpbgcobmifaaDoorW.PrintWords Go.Proofs.YtmmbpbgcobmifaaDoorW.PrintLast Go.Proofs.YtmmbpbgcobmifaaDoorW.PrintMore Go.Proofs.YtmmbpbgcobmifaaDoor.Pr Go.Proofs.YtmmbpbgcobmifaaDoorM
structure InvN (X : MSt Fld) (i : Nat) : Prop where
  pl : X.place ≤ 11
  n : X.n ≤ 4611686018427387903
  co : X.count ≤ i
  li : X.lines ≤ i
  sz : X.size ≤ i
  tx : X.text.length ≤ i
  dl : X.data.length ≤ i
  fl : X.fields.length ≤ i
  n3 : X.place = 3 → 0 < X.n
  t9 : X.place = 7 ∨ X.place = 8 ∨ X.place = 9 → 0 < X.text.length
theorem invN_init : InvN (minit : MSt Fld) 0 := ⟨by decide, by decide, Nat.le_refl _, Nat.le_refl _, Nat.le_refl _, Nat.le_refl _, Nat.le_refl _, Nat.le_refl _, fun h => absurd h (by decide), fun h => absurd h (by decide)⟩
theorem InvN.inv8 {X : MSt Fld} {i : Nat} (h : InvN X i) (hi : i ≤ 1000000) (hp : X.place ≠ 11) : Inv8 X := by
  obtain ⟨q1, q2, q3, q4, q5, q6, q7, q8, q9, q10⟩ := h
  exact ⟨by omega, q2, by omega, by omega, by omega, by omega, by omega, by omega, q9, fun h => q10 (.inr (.inr h))⟩
theorem invN_step {e0 e1 e2 : Nat} {X Y : MSt Fld} {c : Int} {i : Nat} (h : InvN X i) (hc : 0 ≤ c ∧ c ≤ 255) (hs : mstep (envM e0 e1 e2) X c = .ok Y) : InvN Y (i + 1) := by
  have hdg : (envM e0 e1 e2).dg c ≤ 15 := digit8_le hc
  obtain ⟨p, n, co, li, sz, tx, D, F⟩ := X
  obtain ⟨q1, q2, q3, q4, q5, q6, q7, q8, q9, q10⟩ := h
  dsimp only at q1 q2 q3 q4 q5 q6 q7 q8 q9 q10
  have hD : (D ++ [c]).length ≤ i + 1 := by rw [List.length_append]; simp; omega
  have hline : ∀ p2 li2, (p2 = 7 ∨ p2 = 8 ∨ p2 = 9) → (p2 = 7 ∨ 0 < tx.length) → li2 ≤ i + 1 → mline (envM e0 e1 e2) ⟨p2, n, co, li2, sz, tx, D, F⟩ c = .ok Y → InvN Y (i + 1) := by
    intro p2 li2 hp2 ht hl hm
    unfold mline at hm
    split at hm
    · cases hm
    · split at hm
      · cases hm
        exact ⟨by show 6 ≤ 11; omega, q2, (show co ≤ i + 1 by omega), hl, (show sz + 1 ≤ i + 1 by omega), Nat.zero_le _, (show D.length ≤ i + 1 by omega), (by show (F ++ _).length ≤ i + 1; rw [List.length_append]; simp; omega), fun h => by simp at h, fun h => by simp at h⟩
      · cases hm
        exact ⟨(show p2 ≤ 11 by omega), q2, (show co ≤ i + 1 by omega), hl, (show sz + 1 ≤ i + 1 by omega), (by show (tx ++ [c]).length ≤ i + 1; rw [List.length_append]; simp; omega), (show D.length ≤ i + 1 by omega), (show F.length ≤ i + 1 by omega), fun h => by have : p2 = 3 := h; omega, fun _ => by show 0 < (tx ++ [c]).length; rw [List.length_append]; simp⟩
  unfold mstep at hs
  dsimp only at hs
  repeat' split at hs
  all_goals first
    | (cases hs; done)
    | exact hline _ _ (by omega) (by omega) (by omega) hs
    | exact hline _ _ (by omega) (by first | (left; omega) | (right; exact q10 (by omega))) (by omega) hs
    | (cases hs; refine ⟨?_, ?_, ?_, ?_, ?_, ?_, ?_, ?_, ?_, ?_⟩ <;> dsimp only <;> first | assumption | omega | (intro h; omega))
end Go.Proofs.YtmmbpbgcobmifaaDoorH
end
section
namespace Go.Proofs.YtmmbpbgcobmifaaDoor.Pr
end Go.Proofs.YtmmbpbgcobmifaaDoor.Pr
namespace Go.Proofs.YtmmbpbgcobmifaaDoorH
set_option linter.unusedVariables false
set_option linter.unusedSimpArgs false
open Go Go.RowKit Go.Proofs.YtmmbpbgcobmifaaDoorW.PrintWords Go.Proofs.YtmmbpbgcobmifaaDoorW.PrintLast Go.Proofs.YtmmbpbgcobmifaaDoorW.PrintMore Go.Proofs.YtmmbpbgcobmifaaDoor.Pr Go.Proofs.YtmmbpbgcobmifaaDoorM
theorem put10 {W : World} {g : Nat} {t : TypeId} {z0 z1 z2 z3 z4 z5 z6 z7 z8 z9 : Value} (h : W.heap[g]? = some (.cells #[z0, z1, z2, z3, z4, z5, z6, z7, z8, z9] t (0, 0))) (v0 v1 v2 v3 v4 v5 v6 v7 v8 v9 : Value) : ((((((((((W.setCell ⟨g, 0, none⟩ v0).setCell ⟨g, 1, none⟩ v1).setCell ⟨g, 2, none⟩ v2).setCell ⟨g, 3, none⟩ v3).setCell ⟨g, 4, none⟩ v4).setCell ⟨g, 5, none⟩ v5).setCell ⟨g, 6, none⟩ v6).setCell ⟨g, 7, none⟩ v7).setCell ⟨g, 8, none⟩ v8).setCell ⟨g, 9, none⟩ v9).heap[g]? = some (.cells #[v0, v1, v2, v3, v4, v5, v6, v7, v8, v9] t (0, 0)) := blk_put (cs := #[v0, v1, v2, v3, v4, v5, v6, v7, v8, z9]) (blk_put (cs := #[v0, v1, v2, v3, v4, v5, v6, v7, z8, z9]) (blk_put (cs := #[v0, v1, v2, v3, v4, v5, v6, z7, z8, z9]) (blk_put (cs := #[v0, v1, v2, v3, v4, v5, z6, z7, z8, z9]) (blk_put (cs := #[v0, v1, v2, v3, v4, z5, z6, z7, z8, z9]) (blk_put (cs := #[v0, v1, v2, v3, z4, z5, z6, z7, z8, z9]) (blk_put (cs := #[v0, v1, v2, z3, z4, z5, z6, z7, z8, z9]) (blk_put (cs := #[v0, v1, z2, z3, z4, z5, z6, z7, z8, z9]) (blk_put (cs := #[v0, z1, z2, z3, z4, z5, z6, z7, z8, z9]) (blk_put (cs := #[z0, z1, z2, z3, z4, z5, z6, z7, z8, z9]) h 0 _ rfl) 1 _ rfl) 2 _ rfl) 3 _ rfl) 4 _ rfl) 5 _ rfl) 6 _ rfl) 7 _ rfl) 8 _ rfl) 9 _ rfl
theorem far8 (W : World) (g : Nat) (v0 v1 v2 v3 v4 v5 v6 v7 : Value) (k : Nat) (hk : k ≠ g) : ((((((((W.setCell ⟨g, 0, none⟩ v0).setCell ⟨g, 1, none⟩ v1).setCell ⟨g, 2, none⟩ v2).setCell ⟨g, 3, none⟩ v3).setCell ⟨g, 4, none⟩ v4).setCell ⟨g, 5, none⟩ v5).setCell ⟨g, 6, none⟩ v6).setCell ⟨g, 7, none⟩ v7).heap[k]? = W.heap[k]? := by rw [farH _ _ _ _ _ hk, farH _ _ _ _ _ hk, farH _ _ _ _ _ hk, farH _ _ _ _ _ hk, farH _ _ _ _ _ hk, farH _ _ _ _ _ hk, farH _ _ _ _ _ hk, farH _ _ _ _ _ hk]
theorem far10 (W : World) (g : Nat) (v0 v1 v2 v3 v4 v5 v6 v7 v8 v9 : Value) (k : Nat) (hk : k ≠ g) : ((((((((((W.setCell ⟨g, 0, none⟩ v0).setCell ⟨g, 1, none⟩ v1).setCell ⟨g, 2, none⟩ v2).setCell ⟨g, 3, none⟩ v3).setCell ⟨g, 4, none⟩ v4).setCell ⟨g, 5, none⟩ v5).setCell ⟨g, 6, none⟩ v6).setCell ⟨g, 7, none⟩ v7).setCell ⟨g, 8, none⟩ v8).setCell ⟨g, 9, none⟩ v9).heap[k]? = W.heap[k]? := by rw [farH _ _ _ _ _ hk, farH _ _ _ _ _ hk, farH _ _ _ _ _ hk, farH _ _ _ _ _ hk, farH _ _ _ _ _ hk, farH _ _ _ _ _ hk, farH _ _ _ _ _ hk, farH _ _ _ _ _ hk, farH _ _ _ _ _ hk, farH _ _ _ _ _ hk]
theorem below_put8 {B : Nat} {w W : World} (h : Below B w W) (g : Nat) (hg : B ≤ g) (v0 v1 v2 v3 v4 v5 v6 v7 : Value) : Below B w ((((((((W.setCell ⟨g, 0, none⟩ v0).setCell ⟨g, 1, none⟩ v1).setCell ⟨g, 2, none⟩ v2).setCell ⟨g, 3, none⟩ v3).setCell ⟨g, 4, none⟩ v4).setCell ⟨g, 5, none⟩ v5).setCell ⟨g, 6, none⟩ v6).setCell ⟨g, 7, none⟩ v7) := bset (bset (bset (bset (bset (bset (bset (bset h _ _ _ hg) _ _ _ hg) _ _ _ hg) _ _ _ hg) _ _ _ hg) _ _ _ hg) _ _ _ hg) _ _ _ hg
theorem below_put10 {B : Nat} {w W : World} (h : Below B w W) (g : Nat) (hg : B ≤ g) (v0 v1 v2 v3 v4 v5 v6 v7 v8 v9 : Value) : Below B w ((((((((((W.setCell ⟨g, 0, none⟩ v0).setCell ⟨g, 1, none⟩ v1).setCell ⟨g, 2, none⟩ v2).setCell ⟨g, 3, none⟩ v3).setCell ⟨g, 4, none⟩ v4).setCell ⟨g, 5, none⟩ v5).setCell ⟨g, 6, none⟩ v6).setCell ⟨g, 7, none⟩ v7).setCell ⟨g, 8, none⟩ v8).setCell ⟨g, 9, none⟩ v9) := bset (bset (bset (bset (bset (bset (bset (bset (bset (bset h _ _ _ hg) _ _ _ hg) _ _ _ hg) _ _ _ hg) _ _ _ hg) _ _ _ hg) _ _ _ hg) _ _ _ hg) _ _ _ hg) _ _ _ hg
structure NoRow (cs : Array Value) : Prop where
  b : ∀ (j : Nat) (x : Int), cs[j]? ≠ some (.int .u8 x)
  s : ∀ (j : Nat) x y, cs[j]? = some (.string x) → cs[j + 1]? ≠ some (.string y)
theorem noRow8 (a0 a1 a2 a3 a4 : Int) (tx : ByteArray) (A B : Option Addr) (m n j k : Nat) : NoRow #[.int .i64 a0, .int .u64 a1, .int .i64 a2, .int .i64 a3, .int .i64 a4, .string tx, .slice A m j, .slice B n k] := by
  refine ⟨fun i x => ?_, fun i x y h => ?_⟩
  · rcases i with _ | _ | _ | _ | _ | _ | _ | _ | i <;> simp
  · rcases i with _ | _ | _ | _ | _ | _ | _ | _ | i <;> simp at h ⊢
theorem noRow10 (a0 a1 a2 a3 a4 a8 a9 : Int) (tx : ByteArray) (A B : Option Addr) (m n j k : Nat) : NoRow #[.int .i64 a0, .int .u64 a1, .int .i64 a2, .int .i64 a3, .int .i64 a4, .string tx, .slice A m j, .slice B n k, .int .i64 a8, .int .i64 a9] := by
  refine ⟨fun i x => ?_, fun i x y h => ?_⟩
  · rcases i with _ | _ | _ | _ | _ | _ | _ | _ | _ | _ | i <;> simp
  · rcases i with _ | _ | _ | _ | _ | _ | _ | _ | _ | _ | i <;> simp at h ⊢
theorem cell_in {W : World} {g : Nat} {cs : Array Value} {t : TypeId} {fr : Nat × Nat} (h : W.heap[g]? = some (.cells cs t fr)) {a : Addr} (ha : a.block = g) {v : Value} (hv : W.cell? a = some v) : cs[a.off]? = some v := by
  unfold World.cell? at hv
  rw [ha, h] at hv
  dsimp only at hv
  split at hv
  · cases hv
  · exact hv
theorem cell_far {W W' : World} {a : Addr} (h : W'.heap[a.block]? = W.heap[a.block]?) : W'.cell? a = W.cell? a := by unfold World.cell?; rw [h]
theorem C8_keep {W W' : World} {g : Nat} {cs : Array Value} {t : TypeId} {fr : Nat × Nat} (hg : W.heap[g]? = some (.cells cs t fr)) (hn : NoRow cs) (hk : ∀ k, k ≠ g → W'.heap[k]? = W.heap[k]?) {A : Option Addr} {n : Nat} {xs : List Int} (h : Kd.C (Kd.int .u8) W A n xs) : Kd.C (Kd.int .u8) W' A n xs := by
  obtain ⟨h1, h2, h3⟩ := h
  refine ⟨h1, h2, fun hp => ?_⟩
  obtain ⟨ad, e, hc⟩ := h3 hp
  refine ⟨ad, e, fun i q hi => ?_⟩
  obtain ⟨cs', a, b, hcell⟩ := hc i q hi
  refine ⟨cs', a, b, fun m u hu => ?_⟩
  have hu2 := hcell m u hu
  have hb : cs' = [.int .u8 q] := b
  have hq : u = .int .u8 q := by
    rw [hb] at hu
    match m with
    | 0 => simpa using hu.symm
    | m + 1 => simp at hu
  subst hq
  rw [cell_far (hk _ fun e => hn.b _ _ (cell_in hg e hu2))]
  exact hu2
theorem CF_keep {W W' : World} {g : Nat} {cs : Array Value} {t : TypeId} {fr : Nat × Nat} (hg : W.heap[g]? = some (.cells cs t fr)) (hn : NoRow cs) (hk : ∀ k, k ≠ g → W'.heap[k]? = W.heap[k]?) {A : Option Addr} {n : Nat} {xs : List Fld} (h : Kd.C k53 W A n xs) : Kd.C k53 W' A n xs := by
  obtain ⟨h1, h2, h3⟩ := h
  refine ⟨h1, h2, fun hp => ?_⟩
  obtain ⟨ad, e, hc⟩ := h3 hp
  refine ⟨ad, e, fun i q hi => ?_⟩
  obtain ⟨cs', a, b, hcell⟩ := hc i q hi
  have hb : cs' = [.string q.f0, .string q.f1] := k53_open b
  have c0 := hcell 0 (.string q.f0) (by rw [hb]; rfl)
  have c1 := hcell 1 (.string q.f1) (by rw [hb]; rfl)
  refine ⟨cs', a, b, fun m u hu => ?_⟩
  have hu2 := hcell m u hu
  have hbk : ∀ z, (ad.add z).block = ad.block := fun z => by unfold Addr.add; split <;> rfl
  have hoff : ∀ z, (ad.add z).off = ad.off + z := fun z => by unfold Addr.add; split <;> simp_all
  rw [cell_far (hk _ fun e => ?_)]
  · exact hu2
  · rw [hbk] at e
    have d0 := cell_in hg ((hbk _).trans e) c0
    have d1 := cell_in hg ((hbk _).trans e) c1
    rw [hoff] at d0 d1
    exact hn.s _ _ _ d0 d1
end Go.Proofs.YtmmbpbgcobmifaaDoorH
end
section
namespace Go.Proofs.YtmmbpbgcobmifaaDoor.Pr
end Go.Proofs.YtmmbpbgcobmifaaDoor.Pr
namespace Go.Proofs.YtmmbpbgcobmifaaDoorH
set_option linter.unusedVariables false
set_option linter.unusedSimpArgs false
open Go Go.RowKit Go.Proofs.YtmmbpbgcobmifaaDoorW.PrintWords Go.Proofs.YtmmbpbgcobmifaaDoorW.PrintLast Go.Proofs.YtmmbpbgcobmifaaDoorW.PrintMore Go.Proofs.YtmmbpbgcobmifaaDoor.Pr Go.Proofs.YtmmbpbgcobmifaaDoorM
def encG (x : Fld) : List Value := [.string x.f0, .string x.f1]
def RowG (W : World) (base : Nat) (v : Value) (l : List Fld) : Prop := W.ownsRow base 53 2 v l.length (l.flatMap encG)
theorem RowG.zero (W : World) (base : Nat) : RowG W base (.slice none 0 0) [] := own_nil W base _ 2
theorem RowG.move {W W1 : World} {base : Nat} {v : Value} {l : List Fld} (h : RowG W base v l) (hm : ∀ k, v.ownBlock = some k → W1.heap[k]? = W.heap[k]?) : RowG W1 base v l := own_move h hm
theorem RowG.at {W : World} {base : Nat} {v : Value} {l : List Fld} (h : RowG W base v l) (k : Nat) (hk : v.ownBlock = some k) : base ≤ k ∧ ∃ cs, W.heap[k]? = some (.cells cs 53 (0, 0)) := by
  rcases h.2 with ⟨rfl, _⟩ | ⟨g, cap, cur, rfl, hb, hh, _⟩
  · simp [Value.ownBlock] at hk
  · have : g = k := by simpa [Value.ownBlock] using hk
    subst this
    exact ⟨hb, _, hh⟩
theorem RowG.reads {W : World} {base : Nat} {v : Value} {l : List Fld} (h : RowG W base v l) : ∃ A c, v = .slice A l.length c ∧ l.length ≤ c ∧ Kd.C k53 W A l.length l :=
  Kd.R_reads (row_of_owns k53 encG (fun _ => rfl) (fun ok x => k53_mkM W base ok x) h)
structure Moves (w W : World) (S S' : Nat → Prop) : Prop where
  sz : w.heap.size ≤ W.heap.size
  bl : ∀ k ob, w.heap[k]? = some ob → ¬ S k → W.heap[k]? = some ob
  own : ∀ k, S' k → S k ∨ w.heap.size ≤ k
theorem Moves.refl (w : World) (S : Nat → Prop) : Moves w w S S := ⟨Nat.le_refl _, fun _ _ h _ => h, fun _ h => .inl h⟩
theorem Moves.trans {w w1 w2 : World} {S S1 S2 : Nat → Prop} (h : Moves w w1 S S1) (g : Moves w1 w2 S1 S2) : Moves w w2 S S2 :=
  ⟨Nat.le_trans h.sz g.sz, fun k ob hk hn => g.bl k ob (h.bl k ob hk hn) (fun hs => (h.own k hs).elim hn (fun hle => by have := blk_lt hk; omega)), fun k hs => (g.own k hs).elim (h.own k) (fun hle => .inr (Nat.le_trans h.sz hle))⟩
theorem Moves.of_only {b : Nat} {w W : World} {S : Nat → Prop} (h : Only b w W) (hb : S b) : Moves w W S S :=
  ⟨h.1.size, fun _ _ hk hn => h.blk hk (fun e => hn (e ▸ hb)), fun _ h => .inl h⟩
theorem Moves.of_below {w W : World} {S : Nat → Prop} (h : Below w.heap.size w W) : Moves w W S S :=
  ⟨h.size, fun _ _ hk _ => blk_below hk h, fun _ h => .inl h⟩
def Own3 (b : Nat) (lv fv : Value) (k : Nat) : Prop := k = b ∨ lv.ownBlock = some k ∨ fv.ownBlock = some k
abbrev decC (e0 e1 e2 : Nat) (X : MSt Fld) (co : Nat) (lv fv : Value) (tk gv : Nat) (er : Int) : Array Value := #[.int .i64 (e0 : Int), .int .i64 (e1 : Int), .int .i64 (e2 : Int), .int .i64 (X.place : Int), .int .u64 (X.n : Int), .int .i64 (co : Int), .int .i64 (X.lines : Int), .int .i64 (X.size : Int), lv, fv, .int .i64 (tk : Int), .int .i64 (gv : Int), .int .i64 er]
structure AtD (W : World) (B b e0 e1 e2 : Nat) (X : MSt Fld) (co : Nat) (lv fv : Value) (tk gv : Nat) (er : Int) : Prop where
  i : W.heap[b]? = some (.cells (decC e0 e1 e2 X co lv fv tk gv er) 73 (0, 0))
  l : RowD W B lv X.text
  f : RowG W B fv X.fields
  hb : B ≤ b
section
variable {W : World} {B b e0 e1 e2 : Nat} {X : MSt Fld} {co : Nat} {lv fv : Value} {tk gv : Nat} {er : Int}
theorem AtD.c0 (h : AtD W B b e0 e1 e2 X co lv fv tk gv er) : W.cell? ⟨b, 0, none⟩ = some (.int .i64 (e0 : Int)) := (blk_cell h.i 0).trans rfl
theorem AtD.c1 (h : AtD W B b e0 e1 e2 X co lv fv tk gv er) : W.cell? ⟨b, 1, none⟩ = some (.int .i64 (e1 : Int)) := (blk_cell h.i 1).trans rfl
theorem AtD.c2 (h : AtD W B b e0 e1 e2 X co lv fv tk gv er) : W.cell? ⟨b, 2, none⟩ = some (.int .i64 (e2 : Int)) := (blk_cell h.i 2).trans rfl
theorem AtD.c3 (h : AtD W B b e0 e1 e2 X co lv fv tk gv er) : W.cell? ⟨b, 3, none⟩ = some (.int .i64 (X.place : Int)) := (blk_cell h.i 3).trans rfl
theorem AtD.c4 (h : AtD W B b e0 e1 e2 X co lv fv tk gv er) : W.cell? ⟨b, 4, none⟩ = some (.int .u64 (X.n : Int)) := (blk_cell h.i 4).trans rfl
theorem AtD.c5 (h : AtD W B b e0 e1 e2 X co lv fv tk gv er) : W.cell? ⟨b, 5, none⟩ = some (.int .i64 (co : Int)) := (blk_cell h.i 5).trans rfl
theorem AtD.c6 (h : AtD W B b e0 e1 e2 X co lv fv tk gv er) : W.cell? ⟨b, 6, none⟩ = some (.int .i64 (X.lines : Int)) := (blk_cell h.i 6).trans rfl
theorem AtD.c7 (h : AtD W B b e0 e1 e2 X co lv fv tk gv er) : W.cell? ⟨b, 7, none⟩ = some (.int .i64 (X.size : Int)) := (blk_cell h.i 7).trans rfl
theorem AtD.c8 (h : AtD W B b e0 e1 e2 X co lv fv tk gv er) : W.cell? ⟨b, 8, none⟩ = some lv := (blk_cell h.i 8).trans rfl
theorem AtD.c9 (h : AtD W B b e0 e1 e2 X co lv fv tk gv er) : W.cell? ⟨b, 9, none⟩ = some fv := (blk_cell h.i 9).trans rfl
theorem AtD.c10 (h : AtD W B b e0 e1 e2 X co lv fv tk gv er) : W.cell? ⟨b, 10, none⟩ = some (.int .i64 (tk : Int)) := (blk_cell h.i 10).trans rfl
theorem AtD.c11 (h : AtD W B b e0 e1 e2 X co lv fv tk gv er) : W.cell? ⟨b, 11, none⟩ = some (.int .i64 (gv : Int)) := (blk_cell h.i 11).trans rfl
theorem AtD.c12 (h : AtD W B b e0 e1 e2 X co lv fv tk gv er) : W.cell? ⟨b, 12, none⟩ = some (.int .i64 er) := (blk_cell h.i 12).trans rfl
theorem AtD.fz (h : AtD W B b e0 e1 e2 X co lv fv tk gv er) (j : Nat) : W.frozen? ⟨b, j, none⟩ = false := blk_frozen h.i j
theorem AtD.lt (h : AtD W B b e0 e1 e2 X co lv fv tk gv er) : b < W.heap.size := blk_lt h.i
theorem AtD.nl (h : AtD W B b e0 e1 e2 X co lv fv tk gv er) : lv.ownBlock ≠ some b := fun e => by
  obtain ⟨_, cs, hc⟩ := h.l.at b e
  have := hc.symm.trans h.i
  cases this
theorem AtD.nf (h : AtD W B b e0 e1 e2 X co lv fv tk gv er) : fv.ownBlock ≠ some b := fun e => by
  obtain ⟨_, cs, hc⟩ := h.f.at b e
  have := hc.symm.trans h.i
  cases this
theorem AtD.nlf (h : AtD W B b e0 e1 e2 X co lv fv tk gv er) (k : Nat) (h1 : lv.ownBlock = some k) : fv.ownBlock ≠ some k := fun e => by
  obtain ⟨_, cs, hc⟩ := h.f.at k e
  obtain ⟨_, cs', hc'⟩ := h.l.at k h1
  have := hc.symm.trans hc'
  cases this
theorem AtD.turn {W1 : World} {Y : MSt Fld} {co' tk' gv' : Nat} {er' : Int} (h : AtD W B b e0 e1 e2 X co lv fv tk gv er) (ho : Only b W W1) (hi : W1.heap[b]? = some (.cells (decC e0 e1 e2 Y co' lv fv tk' gv' er') 73 (0, 0))) (ht : Y.text = X.text) (hf : Y.fields = X.fields) : AtD W1 B b e0 e1 e2 Y co' lv fv tk' gv' er' :=
  ⟨hi, by
    rw [ht]
    refine h.l.move fun k hk => ?_
    obtain ⟨_, cs, hc⟩ := h.l.at k hk
    rw [hc]
    exact ho.blk hc (fun e => h.nl (e ▸ hk)), by
    rw [hf]
    refine h.f.move fun k hk => ?_
    obtain ⟨_, cs, hc⟩ := h.f.at k hk
    rw [hc]
    exact ho.blk hc (fun e => h.nf (e ▸ hk)), h.hb⟩
theorem AtD.below {W1 : World} (h : AtD W B b e0 e1 e2 X co lv fv tk gv er) (hb : Below W.heap.size W W1) : AtD W1 B b e0 e1 e2 X co lv fv tk gv er :=
  h.turn (Only.of_below hb (Nat.le_of_lt h.lt)) (blk_below h.i hb) rfl rfl
end
structure Far (w W : World) (B b : Nat) (lv fv lv' fv' : Value) : Prop where
  m : Moves w W (Own3 b lv fv) (Own3 b lv' fv')
  b : Below B w W
theorem Far.refl (w : World) (B b : Nat) (lv fv : Value) : Far w w B b lv fv lv fv := ⟨Moves.refl _ _, Below.refl _ _⟩
theorem Far.trans {w w1 w2 : World} {B b : Nat} {lv fv lv1 fv1 lv2 fv2 : Value} (h : Far w w1 B b lv fv lv1 fv1) (g : Far w1 w2 B b lv1 fv1 lv2 fv2) : Far w w2 B b lv fv lv2 fv2 := ⟨h.m.trans g.m, h.b.trans g.b⟩
theorem Far.only {w W : World} {B b : Nat} {lv fv : Value} (h : Only b w W) (hb : B ≤ b) : Far w W B b lv fv lv fv := ⟨Moves.of_only h (.inl rfl), h.1.mono hb⟩
theorem Far.of_below {w W : World} {B b : Nat} {lv fv : Value} (h : Below w.heap.size w W) (hb : B ≤ w.heap.size) : Far w W B b lv fv lv fv := ⟨Moves.of_below h, h.mono hb⟩
def TakeD (w : World) (B b e0 e1 e2 : Nat) (X : MSt Fld) (lv fv : Value) (tk gv : Nat) (c : Int) (e : Ending) (w' : World) : Prop :=
  ∃ (Y : MSt Fld) (co : Nat) (lv' fv' : Value) (er : Int), e = .returned (.int .i64 er) ∧ AtD w' B b e0 e1 e2 Y co lv' fv' tk gv 0 ∧ Far w w' B b lv fv lv' fv' ∧ (mstep (envM e0 e1 e2) X c = .ok Y ∧ er = 0 ∧ co = Y.count ∨ mstep (envM e0 e1 e2) X c = .error er ∧ er ≠ 0 ∧ Y = X)
theorem take_bad {w w' : World} {B b e0 e1 e2 : Nat} {X : MSt Fld} {lv fv : Value} {tk gv : Nat} {c : Int} {co : Nat} (er : Int) (h : AtD w' B b e0 e1 e2 X co lv fv tk gv 0) (hf : Far w w' B b lv fv lv fv) (hm : mstep (envM e0 e1 e2) X c = .error er) (hne : er ≠ 0) : TakeD w B b e0 e1 e2 X lv fv tk gv c (.returned (.int .i64 er)) w' := ⟨X, co, lv, fv, er, rfl, h, hf, .inr ⟨hm, hne, rfl⟩⟩
theorem take_ok {w w' : World} {B b e0 e1 e2 : Nat} {X Y : MSt Fld} {lv fv lv' fv' : Value} {tk gv : Nat} {c : Int} (h : AtD w' B b e0 e1 e2 Y Y.count lv' fv' tk gv 0) (hf : Far w w' B b lv fv lv' fv') (hm : mstep (envM e0 e1 e2) X c = .ok Y) : TakeD w B b e0 e1 e2 X lv fv tk gv c (.returned (.int .i64 0)) w' := ⟨Y, Y.count, lv', fv', 0, rfl, h, hf, .inl ⟨hm, rfl, rfl⟩⟩
set_option maxHeartbeats 1600000 in
set_option maxRecDepth 100000 in
theorem to_on (b p : Nat) (v : Value) (w : World) (hc : w.cell? ⟨b, 3, none⟩ = some v) (hf : w.frozen? ⟨b, 3, none⟩ = false) :
    Calls Tryd.prog 73 #[.pointer (some ⟨b, 0, none⟩), .int .i64 (p : Int), .bool true] w fun e w' => e = .returned (.int .i64 0) ∧ w' = w.setCell ⟨b, 3, none⟩ (.int .i64 (p : Int)) := by
  go_enter Tryd.func73, Tryd.ntmps73
  go_wp2
  go_ret
  exact ⟨rfl, rfl⟩
set_option maxHeartbeats 1600000 in
set_option maxRecDepth 100000 in
theorem to_off (b : Nat) (p : Int) (w : World) :
    Calls Tryd.prog 73 #[.pointer (some ⟨b, 0, none⟩), .int .i64 p, .bool false] w fun e w' => e = .returned (.int .i64 2) ∧ w' = w := by
  go_enter Tryd.func73, Tryd.ntmps73
  go_wp2
  go_ret
  exact ⟨rfl, rfl⟩
section
variable {W : World} {B b e0 e1 e2 : Nat} {X : MSt Fld} {co : Nat} {lv fv : Value} {tk gv : Nat} {er : Int}
theorem AtD.s3 (h : AtD W B b e0 e1 e2 X co lv fv tk gv er) (p : Nat) : AtD (W.setCell ⟨b, 3, none⟩ (.int .i64 (p : Int))) B b e0 e1 e2 { X with place := p } co lv fv tk gv er :=
  h.turn (Only.set _ _ _) (by simpa using blk_set h.i 3 (.int .i64 (p : Int))) rfl rfl
theorem AtD.s4 (h : AtD W B b e0 e1 e2 X co lv fv tk gv er) (p : Nat) : AtD (W.setCell ⟨b, 4, none⟩ (.int .u64 (p : Int))) B b e0 e1 e2 { X with n := p } co lv fv tk gv er :=
  h.turn (Only.set _ _ _) (by simpa using blk_set h.i 4 (.int .u64 (p : Int))) rfl rfl
theorem AtD.s5 (h : AtD W B b e0 e1 e2 X co lv fv tk gv er) (p : Nat) : AtD (W.setCell ⟨b, 5, none⟩ (.int .i64 (p : Int))) B b e0 e1 e2 X p lv fv tk gv er :=
  h.turn (Only.set _ _ _) (by simpa using blk_set h.i 5 (.int .i64 (p : Int))) rfl rfl
theorem AtD.s6 (h : AtD W B b e0 e1 e2 X co lv fv tk gv er) (p : Nat) : AtD (W.setCell ⟨b, 6, none⟩ (.int .i64 (p : Int))) B b e0 e1 e2 { X with lines := p } co lv fv tk gv er :=
  h.turn (Only.set _ _ _) (by simpa using blk_set h.i 6 (.int .i64 (p : Int))) rfl rfl
theorem AtD.s7 (h : AtD W B b e0 e1 e2 X co lv fv tk gv er) (p : Nat) : AtD (W.setCell ⟨b, 7, none⟩ (.int .i64 (p : Int))) B b e0 e1 e2 { X with size := p } co lv fv tk gv er :=
  h.turn (Only.set _ _ _) (by simpa using blk_set h.i 7 (.int .i64 (p : Int))) rfl rfl
theorem AtD.s12 (h : AtD W B b e0 e1 e2 X co lv fv tk gv er) (p : Int) : AtD (W.setCell ⟨b, 12, none⟩ (.int .i64 p)) B b e0 e1 e2 X co lv fv tk gv p :=
  h.turn (Only.set _ _ _) (by simpa using blk_set h.i 12 (.int .i64 p)) rfl rfl
theorem AtD.count (h : AtD W B b e0 e1 e2 X co lv fv tk gv er) (p : Nat) : AtD W B b e0 e1 e2 { X with count := p } co lv fv tk gv er := ⟨h.i, h.l, h.f, h.hb⟩
end
set_option maxHeartbeats 1600000 in
set_option maxRecDepth 100000 in
theorem closed_does (B b e0 e1 e2 : Nat) (X : MSt Fld) (lv fv : Value) (tk gv : Nat) (c : Int) (w : World) (h : AtD w B b e0 e1 e2 X X.count lv fv tk gv 0) (hp : X.place = 4) :
    Calls Tryd.prog 57 #[.pointer (some ⟨b, 0, none⟩), .int .u8 c] w (TakeD w B b e0 e1 e2 X lv fv tk gv c) := by
  have H := Aside0.mk h
  have k3 := h.c3
  have z3 := h.fz 3
  have HP := Aside0.mk hp
  clear h hp
  by_cases hc : c = 13
  · subst hc
    have HT := Aside0.mk (to_on b 5 _ w k3 z3)
    clear k3 z3
    go_enter Tryd.func57, Tryd.ntmps57
    go_wp2_with fail
    refine HT.out.mono ?_
    rintro e w1 ⟨rfl, rfl⟩
    go_wp2
    go_ret
    exact take_ok (Y := { X with place := 5 }) (H.out.s3 5) (Far.only (Only.set _ _ _) H.out.hb) ((step4 HP.out).trans (if_neg (by simp)))
  · have hc' : (c == 13) = false := by rw [beq_eq_false_iff_ne]; exact hc
    have HT := Aside0.mk (to_off b 5 w)
    clear k3 z3
    go_enter Tryd.func57, Tryd.ntmps57
    go_wp2_with fail
    refine HT.out.mono ?_
    rintro e w1 ⟨rfl, rfl⟩
    go_wp2
    go_ret
    exact take_bad 2 H.out (Far.refl _ _ _ _ _) ((step4 HP.out).trans (if_pos hc)) (by decide)
end Go.Proofs.YtmmbpbgcobmifaaDoorH
end
section
namespace Go.Proofs.YtmmbpbgcobmifaaDoor.Pr
end Go.Proofs.YtmmbpbgcobmifaaDoor.Pr
namespace Go.Proofs.YtmmbpbgcobmifaaDoorH
set_option linter.unusedVariables false
set_option linter.unusedSimpArgs false
open Go Go.RowKit Go.Proofs.YtmmbpbgcobmifaaDoorW.PrintWords Go.Proofs.YtmmbpbgcobmifaaDoorW.PrintLast Go.Proofs.YtmmbpbgcobmifaaDoorW.PrintMore Go.Proofs.YtmmbpbgcobmifaaDoor.Pr Go.Proofs.YtmmbpbgcobmifaaDoorM
set_option maxHeartbeats 4000000 in
set_option maxRecDepth 100000 in
theorem again_does (B b e0 e1 e2 : Nat) (X : MSt Fld) (lv fv : Value) (tk gv : Nat) (c : Int) (w : World) (h : AtD w B b e0 e1 e2 X X.count lv fv tk gv 0) (hp : X.place = 5) :
    Calls Tryd.prog 58 #[.pointer (some ⟨b, 0, none⟩), .int .u8 c] w (TakeD w B b e0 e1 e2 X lv fv tk gv c) := by
  have H := Aside0.mk h
  have k5 := h.c5
  have z5 := h.fz 5
  have HP := Aside0.mk hp
  have H1 := Aside0.mk (h.s5 0)
  have HF := Aside0.mk (show Far w (w.setCell ⟨b, 5, none⟩ (.int .i64 0)) B b lv fv lv fv from Far.only (Only.set _ _ _) h.hb)
  clear h hp
  by_cases hc : c = 10
  · subst hc
    go_enter Tryd.func58, Tryd.ntmps58
    go_wp2_with fail
    obtain ⟨w1, hw1⟩ : ∃ w1, w.setCell ⟨b, 5, none⟩ (.int .i64 0) = w1 := ⟨_, rfl⟩
    rw [hw1]
    have H2 := Aside0.mk (show AtD w1 B b e0 e1 e2 X 0 lv fv tk gv 0 by rw [← hw1]; exact H1.out)
    have HF2 := Aside0.mk (show Far w w1 B b lv fv lv fv by rw [← hw1]; exact HF.out)
    clear hw1 k5 z5 H1
    refine (to_on b 0 _ w1 H2.out.c3 (H2.out.fz 3)).mono ?_
    rintro e w2 ⟨rfl, rfl⟩
    go_wp2
    go_ret
    exact take_ok (Y := { X with place := 0, count := 0 }) ((H2.out.s3 0).count 0) (HF2.out.trans (Far.only (Only.set _ _ _) H.out.hb)) ((step5 HP.out).trans (if_neg (by simp)))
  · have hc' : (c == 10) = false := by rw [beq_eq_false_iff_ne]; exact hc
    go_enter Tryd.func58, Tryd.ntmps58
    go_wp2_with fail
    refine (to_off b 0 _).mono ?_
    rintro e w1 ⟨rfl, rfl⟩
    go_wp2
    go_ret
    exact take_bad (co := 0) 2 H1.out HF.out ((step5 HP.out).trans (if_pos hc)) (by decide)
set_option maxHeartbeats 4000000 in
set_option maxRecDepth 100000 in
theorem finish_does (B b e0 e1 e2 : Nat) (X : MSt Fld) (lv fv : Value) (tk gv : Nat) (c : Int) (w : World) (h : AtD w B b e0 e1 e2 X X.count lv fv tk gv 0) (hp : X.place = 10) :
    Calls Tryd.prog 63 #[.pointer (some ⟨b, 0, none⟩), .int .u8 c] w (TakeD w B b e0 e1 e2 X lv fv tk gv c) := by
  have H := Aside0.mk h
  have HP := Aside0.mk hp
  have HT := Aside0.mk (to_on b 11 _ w h.c3 (h.fz 3))
  have HT2 := Aside0.mk (to_off b 11 w)
  clear h hp
  by_cases hc : c = 10
  · subst hc
    go_enter Tryd.func63, Tryd.ntmps63
    go_wp2_with fail
    refine HT.out.mono ?_
    rintro e w1 ⟨rfl, rfl⟩
    go_wp2
    go_ret
    exact take_ok (Y := { X with place := 11 }) (H.out.s3 11) (Far.only (Only.set _ _ _) H.out.hb) ((step10 HP.out).trans (if_neg (by simp)))
  · have hc' : (c == 10) = false := by rw [beq_eq_false_iff_ne]; exact hc
    go_enter Tryd.func63, Tryd.ntmps63
    go_wp2_with fail
    refine HT2.out.mono ?_
    rintro e w1 ⟨rfl, rfl⟩
    go_wp2
    go_ret
    exact take_bad 2 H.out (Far.refl _ _ _ _ _) ((step10 HP.out).trans (if_pos hc)) (by decide)
set_option maxHeartbeats 4000000 in
set_option maxRecDepth 100000 in
theorem begun_does (B b e0 e1 e2 : Nat) (X : MSt Fld) (lv fv : Value) (tk gv : Nat) (c : Int) (w : World) (h : AtD w B b e0 e1 e2 X X.count lv fv tk gv 0) (hp : X.place = 2) :
    Calls Tryd.prog 55 #[.pointer (some ⟨b, 0, none⟩), .int .u8 c] w (TakeD w B b e0 e1 e2 X lv fv tk gv c) := by
  have H := Aside0.mk h
  have HP := Aside0.mk hp
  have k4 := h.c4
  have HT6 := Aside0.mk (to_on b 6 _ w h.c3 (h.fz 3))
  have HT3 := Aside0.mk (to_on b 3 _ w h.c3 (h.fz 3))
  have HT62 := Aside0.mk (to_off b 6 w)
  have HT32 := Aside0.mk (to_off b 3 w)
  clear h hp
  by_cases hn : X.n = 0
  · have hn' : ((X.n : Int) == 0) = true := by rw [beq_iff_eq]; omega
    have HN := Aside0.mk hn
    rw [hn] at k4
    clear hn hn'
    by_cases hc : c = 10
    · subst hc
      go_enter Tryd.func55, Tryd.ntmps55
      go_wp2_with fail
      refine HT6.out.mono ?_
      rintro e w1 ⟨rfl, rfl⟩
      go_wp2
      go_ret
      exact take_ok (Y := { X with place := 6 }) (H.out.s3 6) (Far.only (Only.set _ _ _) H.out.hb) ((step2 HP.out).trans ((if_neg (by simp)).trans (if_neg (by rw [HN.out]; decide))))
    · have hc' : (c == 10) = false := by rw [beq_eq_false_iff_ne]; exact hc
      go_enter Tryd.func55, Tryd.ntmps55
      go_wp2_with fail
      refine HT62.out.mono ?_
      rintro e w1 ⟨rfl, rfl⟩
      go_wp2
      go_ret
      exact take_bad 2 H.out (Far.refl _ _ _ _ _) ((step2 HP.out).trans (if_pos hc)) (by decide)
  · have hn' : ((X.n : Int) == 0) = false := by rw [beq_eq_false_iff_ne]; omega
    have HN := Aside0.mk hn
    clear hn
    by_cases hc : c = 10
    · subst hc
      go_enter Tryd.func55, Tryd.ntmps55
      go_wp2_with fail
      refine HT3.out.mono ?_
      rintro e w1 ⟨rfl, rfl⟩
      go_wp2
      go_ret
      exact take_ok (Y := { X with place := 3 }) (H.out.s3 3) (Far.only (Only.set _ _ _) H.out.hb) ((step2 HP.out).trans ((if_neg (by simp)).trans (if_pos (Nat.pos_of_ne_zero HN.out))))
    · have hc' : (c == 10) = false := by rw [beq_eq_false_iff_ne]; exact hc
      go_enter Tryd.func55, Tryd.ntmps55
      go_wp2_with fail
      refine HT32.out.mono ?_
      rintro e w1 ⟨rfl, rfl⟩
      go_wp2
      go_ret
      exact take_bad 2 H.out (Far.refl _ _ _ _ _) ((step2 HP.out).trans (if_pos hc)) (by decide)
set_option maxHeartbeats 4000000 in
set_option maxRecDepth 100000 in
theorem extended_does (B b e0 e1 e2 : Nat) (X : MSt Fld) (lv fv : Value) (tk gv : Nat) (c : Int) (w : World) (h : AtD w B b e0 e1 e2 X X.count lv fv tk gv 0) (hG : Keeps B w TabOk) (hB : B ≤ w.heap.size) (hco : X.count ≤ 1000000) (hp : X.place = 1) :
    Calls Tryd.prog 54 #[.pointer (some ⟨b, 0, none⟩), .int .u8 c] w (TakeD w B b e0 e1 e2 X lv fv tk gv c) := by
  have H := Aside0.mk h
  have HP := Aside0.mk hp
  have HG := Aside0.mk hG
  have HT2 := Aside0.mk (to_on b 2 _ w h.c3 (h.fz 3))
  clear h hp hG
  by_cases h13 : c = 13
  · subst h13
    go_enter Tryd.func54, Tryd.ntmps54
    go_wp2_with fail
    refine HT2.out.mono ?_
    rintro e w1 ⟨rfl, rfl⟩
    go_wp2
    go_ret
    exact take_ok (Y := { X with place := 2 }) (H.out.s3 2) (Far.only (Only.set _ _ _) H.out.hb) ((step1 HP.out).trans (if_pos rfl))
  · have hc' : (c == 13) = false := by rw [beq_eq_false_iff_ne]; exact h13
    have hcv := one_byte w c
    have HBA := Aside0.mk (below_alloc (Below.refl w.heap.size w) (.cells #[.int .u8 c] 5))
    have HTX := Aside0.mk (octet_Text.calls _ _ (w.alloc (.cells #[.int .u8 c] 5)) (HG.out _ (HBA.out.mono hB)) (textB_eq c))
    go_enter Tryd.func54, Tryd.ntmps54
    go_wp2_with fail
    refine HTX.out.mono ?_
    rintro e w2 ⟨rfl, hb2⟩
    have HB2 := Aside0.mk (HBA.out.trans (hb2.mono HBA.out.size))
    have H2 := Aside0.mk (H.out.below HB2.out)
    have HF2 := Aside0.mk (show Far w w2 B b lv fv lv fv from Far.of_below HB2.out hB)
    clear hb2 hcv
    cases htx : textB c with
    | false =>
      go_wp2
      go_ret
      exact take_bad 2 H2.out HF2.out ((step1 HP.out).trans ((if_neg h13).trans (if_pos htx))) (by decide)
    | true =>
      have HX := Aside0.mk htx
      clear htx
      have k0 := H2.out.c0
      have k5 := H2.out.c5
      have z5 := H2.out.fz 5
      by_cases hle : e0 ≤ X.count
      · have hle' : (e0 : Int) ≤ (X.count : Int) := by omega
        go_wp2_with fail
        go_region_held3 (fun W => W.cell? ⟨b, 5, none⟩ = some (.int .i64 (X.count : Int)) ∧ W.cell? ⟨b, 0, none⟩ = some (.int .i64 (e0 : Int))) (exact ⟨k5, k0⟩) (fail)
        go_wp2
        go_ret
        exact take_bad 5 (H2.out.below (below_drew (Below.refl _ _))) (HF2.out.trans (Far.of_below (below_drew (Below.refl _ _)) (Nat.le_trans hB HF2.out.m.sz))) ((step1 HP.out).trans ((if_neg h13).trans ((if_neg (by show ¬ textB c = false; rw [HX.out]; decide)).trans (if_pos hle)))) (by decide)
      · have hle' : ¬ (e0 : Int) ≤ (X.count : Int) := by omega
        obtain ⟨n1, hn1⟩ : ∃ n1, X.count + 1 = n1 := ⟨_, rfl⟩
        have hw1 : IntKind.i64.wrap ((X.count : Int) + 1) = (n1 : Int) := by
          unfold IntKind.wrap
          simp [IntKind.bits, IntKind.signed]
          omega
        have HN := Aside0.mk hn1
        clear hn1
        go_wp2_with fail
        go_region_held3 (fun W => W.cell? ⟨b, 5, none⟩ = some (.int .i64 (X.count : Int)) ∧ W.cell? ⟨b, 0, none⟩ = some (.int .i64 (e0 : Int))) (exact ⟨k5, k0⟩) (fail)
        go_wp2
        go_ret
        refine take_ok (Y := { X with count := n1 }) (((H2.out.below (below_drew (Below.refl _ _))).s5 n1).count n1) ((HF2.out.trans (Far.of_below (below_drew (Below.refl _ _)) (Nat.le_trans hB HF2.out.m.sz))).trans (Far.only (Only.set _ _ _) H.out.hb)) ((step1 HP.out).trans ((if_neg h13).trans ((if_neg (by show ¬ textB c = false; rw [HX.out]; decide)).trans ((if_neg hle).trans ?_))))
        rw [HN.out]
set_option maxHeartbeats 4000000 in
set_option maxRecDepth 100000 in
theorem digit_does (B b e0 e1 e2 : Nat) (X : MSt Fld) (lv fv : Value) (tk gv : Nat) (c : Int) (w : World) (h : AtD w B b e0 e1 e2 X X.count lv fv tk gv 0) (hG : Keeps B w TabOk) (hB : B ≤ w.heap.size) (hb : 0 ≤ c ∧ c ≤ 255) (hco : X.count ≤ 1000000) (hn : X.n ≤ 4611686018427387903) (hp : X.place = 0) :
    Calls Tryd.prog 53 #[.pointer (some ⟨b, 0, none⟩), .int .u8 c] w (TakeD w B b e0 e1 e2 X lv fv tk gv c) := by
  have H := Aside0.mk h
  have HP := Aside0.mk hp
  have HG := Aside0.mk hG
  have hdg := digit_eq hb.1 hb.2
  have HDG := Aside0.mk (hexa_Digit.calls 5 c _ w (hG w (Below.refl _ _)) hdg.1)
  have hco' : ¬ X.count = 16 → ¬ (X.count : Int) = 16 := by omega
  clear h hp hG
  by_cases hneg : digI c < 0
  · have hneg' : ¬ (0 : Int) ≤ digI c := by omega
    have HNEG := Aside0.mk hneg'
    go_enter Tryd.func53, Tryd.ntmps53
    go_wp2_with fail
    refine HDG.out.mono ?_
    rintro e w1 ⟨rfl, hd1⟩
    have H1 := Aside0.mk (H.out.below hd1.below)
    have HF1 := Aside0.mk (show Far w w1 B b lv fv lv fv from Far.of_below hd1.below hB)
    have HB1 := Aside0.mk (Nat.le_trans hB hd1.below.size)
    clear hd1 HDG
    have k5 := H1.out.c5
    by_cases hz : X.count = 0
    · have hz' : ((X.count : Int) == 0) = true := by rw [beq_iff_eq]; omega
      rw [hz] at k5
      have HZ := Aside0.mk hz
      clear hz hz'
      go_wp2
      go_ret
      exact take_bad 2 H1.out HF1.out ((step0 HP.out).trans ((if_neg (Int.not_le.2 HNEG.out)).trans (if_pos (.inl HZ.out)))) (by decide)
    · have hz' : ((X.count : Int) == 0) = false := by rw [beq_eq_false_iff_ne]; omega
      by_cases h59 : c = 59
      · subst h59
        have HTX := Aside0.mk (show textB 59 = true by decide +kernel)
        have k3 := H1.out.c3
        have z3 := H1.out.fz 3
        have z5 := H1.out.fz 5
        go_upto_region 13 with (fail)
        obtain ⟨w2, hw2⟩ : ∃ w2, ((w1.setCell ⟨b, 5, none⟩ (.int .i64 0)).setCell ⟨b, 3, none⟩ (.int .i64 1)) = w2 := ⟨_, rfl⟩
        have H2 := Aside0.mk (show AtD w2 B b e0 e1 e2 { X with place := 1, count := 0 } 0 lv fv tk gv 0 by rw [← hw2]; exact (((H1.out.s5 0).s3 1).count 0))
        have HF2 := Aside0.mk (show Far w w2 B b lv fv lv fv by rw [← hw2]; exact (HF1.out.trans (Far.only (Only.set _ _ _) H.out.hb)).trans (Far.only (Only.set _ _ _) H.out.hb))
        rw [hw2]
        clear hw2 k3 k5 z3 z5
        have HE := Aside0.mk (extended_does B b e0 e1 e2 { X with place := 1, count := 0 } lv fv tk gv 59 w2 H2.out (fun W hW => HG.out W (HF2.out.b.trans hW)) (Nat.le_trans hB HF2.out.m.sz) (Nat.zero_le _) rfl)
        go_wp2_with fail
        refine HE.out.mono ?_
        rintro e w3 ⟨Y, co, lv', fv', er, rfl, h3, hf3, hm⟩
        have hms : mstep (envM e0 e1 e2) { X with place := 1, count := 0 } 59 = if e0 ≤ 0 then .error 5 else .ok { X with place := 1, count := 1 } := (step1 (s := { X with place := 1, count := 0 }) rfl).trans ((if_neg (by decide)).trans (if_neg (by show ¬ textB 59 = false; rw [HTX.out]; decide)))
        rw [hms] at hm
        have H3 := Aside0.mk h3
        have HF3 := Aside0.mk (HF2.out.trans hf3)
        have hst : mstep (envM e0 e1 e2) X 59 = if e0 < 1 then .error 5 else .ok { X with place := 1, count := 1 } := (step0 HP.out).trans ((if_neg (Int.not_le.2 HNEG.out)).trans ((if_neg (by simp [hz])).trans (if_neg (by decide))))
        have HST := Aside0.mk hst
        clear h3 hf3 HE hst
        by_cases he0 : e0 < 1
        · rw [if_pos (show e0 ≤ 0 by omega)] at hm
          obtain ⟨rfl, rfl⟩ : er = 5 ∧ Y = { X with place := 1, count := 0 } := by
            rcases hm with ⟨h, _⟩ | ⟨h, _, h2⟩
            · cases h
            · cases h; exact ⟨rfl, h2⟩
          clear hm
          have k3 := H3.out.c3
          have z3 := H3.out.fz 3
          have k5 := H3.out.c5
          have z5 := H3.out.fz 5
          go_wp2
          go_ret
          refine ⟨X, 1, lv', fv', 5, rfl, ?_, ((HF3.out.trans (Far.only (Only.set _ 5 (.int .i64 1)) H.out.hb)).trans (Far.only (Only.set _ 3 (.int .i64 0)) H.out.hb)), .inr ⟨HST.out.trans (if_pos he0), by decide, rfl⟩⟩
          have h4 := (H3.out.s5 1).s3 0
          exact ⟨h4.i.trans (by simp only [decC, HP.out]), h4.l, h4.f, h4.hb⟩
        · rw [if_neg (show ¬ e0 ≤ 0 by omega)] at hm
          obtain ⟨rfl, rfl, rfl⟩ : er = 0 ∧ Y = { X with place := 1, count := 1 } ∧ co = 1 := by
            rcases hm with ⟨h, h1, h2⟩ | ⟨h, _, _⟩
            · cases h; exact ⟨h1, rfl, h2⟩
            · cases h
          clear hm
          go_wp2
          go_ret
          exact take_ok H3.out HF3.out (HST.out.trans (if_neg he0))
      · have h59' : (c == 59) = false := by rw [beq_eq_false_iff_ne]; exact h59
        by_cases h13 : c = 13
        · subst h13
          have HT := Aside0.mk (to_on b 2 _ w1 H1.out.c3 (H1.out.fz 3))
          go_wp2_with fail
          refine HT.out.mono ?_
          rintro e w2 ⟨rfl, rfl⟩
          go_wp2
          go_ret
          exact take_ok (Y := { X with place := 2 }) (H1.out.s3 2) (HF1.out.trans (Far.only (Only.set _ _ _) H.out.hb)) ((step0 HP.out).trans ((if_neg (Int.not_le.2 HNEG.out)).trans ((if_neg (by simp [hz])).trans (if_pos rfl))))
        · have h13' : (c == 13) = false := by rw [beq_eq_false_iff_ne]; exact h13
          have HT := Aside0.mk (to_off b 2 w1)
          go_wp2_with fail
          refine HT.out.mono ?_
          rintro e w2 ⟨rfl, rfl⟩
          go_wp2
          go_ret
          exact take_bad 2 H1.out HF1.out ((step0 HP.out).trans ((if_neg (Int.not_le.2 HNEG.out)).trans (if_pos (.inr ⟨h59, h13⟩)))) (by decide)
  · have hneg' : (0 : Int) ≤ digI c := by omega
    have hmore := more_eq X.n hb.1 hb.2 hneg' hn
    have HNEG := Aside0.mk hneg'
    go_enter Tryd.func53, Tryd.ntmps53
    go_wp2_with fail
    refine HDG.out.mono ?_
    rintro e w1 ⟨rfl, hd1⟩
    have H1 := Aside0.mk (H.out.below hd1.below)
    have HF1 := Aside0.mk (show Far w w1 B b lv fv lv fv from Far.of_below hd1.below hB)
    clear hd1 HDG
    have k4 := H1.out.c4
    by_cases hle : X.n ≤ (4611686018427387903 - (digI c).toNat) / 16
    · rw [if_pos hle] at hmore
      obtain ⟨n2, hn2⟩ : ∃ n2, 16 * X.n + (digI c).toNat = n2 := ⟨_, rfl⟩
      rw [hn2] at hmore
      have HN2 := Aside0.mk hn2
      have HM := Aside0.mk (hexa_More.calls 5 (X.n : Int) c _ _ w1 (HG.out w1 HF1.out.b) hmore)
      clear hmore hn2
      go_wp2_with fail
      refine HM.out.mono ?_
      rintro e w2 ⟨rfl, hd2⟩
      have H2 := Aside0.mk (H1.out.below hd2.below)
      have HF2 := Aside0.mk (HF1.out.trans (Far.of_below hd2.below (Nat.le_trans hB HF1.out.m.sz)))
      clear hd2 HM k4
      have k5 := H2.out.c5
      by_cases hg16 : X.count = 16
      · rw [hg16] at k5
        have HG16 := Aside0.mk hg16
        clear hg16
        go_wp2
        go_ret
        exact take_bad 3 H2.out HF2.out ((step0 HP.out).trans ((if_pos HNEG.out).trans (if_pos (.inl HG16.out)))) (by decide)
      · have hg' : ((X.count : Int) == 16) = false := by rw [beq_eq_false_iff_ne]; omega
        have k4 := H2.out.c4
        have z4 := H2.out.fz 4
        have z5 := H2.out.fz 5
        obtain ⟨n1, hn1⟩ : ∃ n1, X.count + 1 = n1 := ⟨_, rfl⟩
        have hw1 : IntKind.i64.wrap ((X.count : Int) + 1) = (n1 : Int) := by
          unfold IntKind.wrap
          simp [IntKind.bits, IntKind.signed]
          omega
        have HN := Aside0.mk hn1
        clear hn1
        go_wp2
        go_ret
        refine take_ok (Y := { X with n := n2, count := n1 }) (((H2.out.s4 n2).s5 n1).count n1) ((HF2.out.trans (Far.only (Only.set _ _ _) H.out.hb)).trans (Far.only (Only.set _ _ _) H.out.hb)) ((step0 HP.out).trans ((if_pos HNEG.out).trans ((if_neg (fun h => h.elim hg16 (fun h => by have : (envM e0 e1 e2).dg c = digI c := rfl; rw [this] at h; omega))).trans ?_)))
        rw [← HN2.out, ← HN.out]
        rfl
    · rw [if_neg hle] at hmore
      have HM := Aside0.mk (hexa_More.calls 5 (X.n : Int) c _ _ w1 (HG.out w1 HF1.out.b) hmore)
      clear hmore
      go_wp2_with fail
      refine HM.out.mono ?_
      rintro e w2 ⟨rfl, hd2⟩
      have H2 := Aside0.mk (H1.out.below hd2.below)
      have HF2 := Aside0.mk (HF1.out.trans (Far.of_below hd2.below (Nat.le_trans hB HF1.out.m.sz)))
      clear hd2 HM k4
      have k5 := H2.out.c5
      have HB3 := Aside0.mk (take_bad (c := c) (X := X) 3 H2.out HF2.out ((step0 HP.out).trans ((if_pos HNEG.out).trans (if_pos (.inr (by have : (envM e0 e1 e2).dg c = digI c := rfl; rw [this]; omega))))) (by decide))
      by_cases hg16 : X.count = 16
      · rw [hg16] at k5
        go_wp2
        go_ret
        exact HB3.out
      · have hg' : ((X.count : Int) == 16) = false := by rw [beq_eq_false_iff_ne]; omega
        go_wp2
        go_ret
        exact HB3.out
end Go.Proofs.YtmmbpbgcobmifaaDoorH
end
section
namespace Go.Proofs.YtmmbpbgcobmifaaDoor.Pr
end Go.Proofs.YtmmbpbgcobmifaaDoor.Pr
namespace Go.Proofs.YtmmbpbgcobmifaaDoorH
set_option linter.unusedVariables false
set_option linter.unusedSimpArgs false
open Go Go.RowKit Go.Proofs.YtmmbpbgcobmifaaDoorW.PrintWords Go.Proofs.YtmmbpbgcobmifaaDoorW.PrintLast Go.Proofs.YtmmbpbgcobmifaaDoorW.PrintMore Go.Proofs.YtmmbpbgcobmifaaDoor.Pr Go.Proofs.YtmmbpbgcobmifaaDoorM
section
variable {W w1 : World} {B b e0 e1 e2 : Nat} {X : MSt Fld} {co : Nat} {lv fv : Value} {tk gv : Nat} {er : Int}
theorem AtD.push {v1 : Value} {c : Int} (h : AtD W B b e0 e1 e2 X co lv fv tk gv er) (hl : w1.ownsRow B 5 1 v1 (X.text.length + 1) (X.text.map (Value.int .u8) ++ [.int .u8 c])) (hb1 : Below B W w1) (hg : W.grownBy w1 lv.ownBlock) (hat : v1.ownBlock = lv.ownBlock ∨ ∃ b', v1.ownBlock = some b' ∧ W.heap.size ≤ b') :
    AtD (w1.setCell ⟨b, 8, none⟩ v1) B b e0 e1 e2 { X with text := X.text ++ [c] } co v1 fv tk gv er ∧ Far W (w1.setCell ⟨b, 8, none⟩ v1) B b lv fv v1 fv := by
  have hi : w1.heap[b]? = some (.cells (decC e0 e1 e2 X co lv fv tk gv er) 73 (0, 0)) := (hg.block b h.lt (fun e => h.nl e.symm)).trans h.i
  have hl1 : RowD w1 B v1 (X.text ++ [c]) := by
    unfold RowD
    rw [List.length_append, List.map_append]
    exact hl
  have hnb : v1.ownBlock ≠ some b := fun e => by
    obtain ⟨_, cs, hc⟩ := hl1.at b e
    have := hc.symm.trans hi
    cases this
  refine ⟨⟨by simpa using blk_set hi 8 v1, hl1.move fun k hk => Below.heap_setCell _ ⟨b, 8, none⟩ v1 k (fun e => hnb (hk.trans (by rw [e]))), h.f.move fun k hk => ?_, h.hb⟩, ⟨⟨?_, fun k ob hk hn => ?_, fun k hk => ?_⟩, hb1.trans ((Below.refl _ _).setCell (p := ⟨b, 8, none⟩) h.hb v1)⟩⟩
  · obtain ⟨_, cs, hc⟩ := h.f.at k hk
    rw [Below.heap_setCell _ ⟨b, 8, none⟩ v1 k (fun e => h.nf (hk.trans (by rw [e]))), hg.block k (blk_lt hc) (fun e => h.nlf k e.symm hk)]
  · exact Nat.le_trans hg.size (Only.set w1 8 v1 (b := b)).1.size
  · rw [Below.heap_setCell _ ⟨b, 8, none⟩ v1 k (fun e => hn (.inl e)), hg.block k (blk_lt hk) (fun e => hn (.inr (.inl e.symm)))]
    exact hk
  · rcases hk with rfl | hk | hk
    · exact .inl (.inl rfl)
    · rcases hat with e | ⟨b', e, hle⟩
      · exact .inl (.inr (.inl (e ▸ hk)))
      · rw [hk] at e
        cases e
        exact .inr hle
    · exact .inl (.inr (.inr hk))
end
theorem token_eq1 {c : Int} (hc : 0 ≤ c ∧ c ≤ 255) : octet_Token.f (strOfNums [c]) = some (tokI c) := all256 (p := fun c => octet_Token.f (strOfNums [c]) = some (tokI c)) (by decide +kernel) hc
set_option maxHeartbeats 4000000 in
set_option maxRecDepth 100000 in
theorem more_full (B b e0 e1 e2 : Nat) (X : MSt Fld) (co : Nat) (lv fv : Value) (tk gv : Nat) (c : Int) (p : Nat) (w : World) (h : AtD w B b e0 e1 e2 X co lv fv tk gv 0) (hB : B ≤ w.heap.size) (hs : e2 ≤ X.size) :
    Calls Tryd.prog 76 #[.pointer (some ⟨b, 0, none⟩), .int .u8 c, .int .i64 (p : Int)] w fun e w' => e = .returned (.int .i64 5) ∧ AtD w' B b e0 e1 e2 X co lv fv tk gv 0 ∧ Far w w' B b lv fv lv fv := by
  have H := Aside0.mk h
  have k2 := h.c2
  have k7 := h.c7
  have hs' : (e2 : Int) ≤ (X.size : Int) := by omega
  clear h
  go_enter Tryd.func76, Tryd.ntmps76
  go_wp2_with fail
  go_region_held3 (fun W => W.cell? ⟨b, 7, none⟩ = some (.int .i64 (X.size : Int)) ∧ W.cell? ⟨b, 2, none⟩ = some (.int .i64 (e2 : Int))) (exact ⟨k7, k2⟩) (fail)
  go_wp2
  go_ret
  exact ⟨rfl, H.out.below (below_drew (Below.refl _ _)), Far.of_below (below_drew (Below.refl _ _)) hB⟩
set_option maxHeartbeats 4000000 in
set_option maxRecDepth 100000 in
theorem more_on (B b e0 e1 e2 : Nat) (X : MSt Fld) (co : Nat) (lv fv : Value) (tk gv : Nat) (c : Int) (p : Nat) (w : World) (h : AtD w B b e0 e1 e2 X co lv fv tk gv 0) (hB : B ≤ w.heap.size) (hs : X.size < e2) (hz : X.size ≤ 1000000) (ht : X.text.length ≤ 1000000) :
    Calls Tryd.prog 76 #[.pointer (some ⟨b, 0, none⟩), .int .u8 c, .int .i64 (p : Int)] w fun e w' => ∃ lv', e = .returned (.int .i64 0) ∧ AtD w' B b e0 e1 e2 { X with size := X.size + 1, text := X.text ++ [c], place := p } co lv' fv tk gv 0 ∧ Far w w' B b lv fv lv' fv := by
  have H := Aside0.mk h
  have k2 := h.c2
  have k7 := h.c7
  have z7 := h.fz 7
  have hs' : ¬ (e2 : Int) ≤ (X.size : Int) := by omega
  obtain ⟨n1, hn1⟩ : ∃ n1, X.size + 1 = n1 := ⟨_, rfl⟩
  have hw1 : IntKind.i64.wrap ((X.size : Int) + 1) = (n1 : Int) := by
    unfold IntKind.wrap
    simp [IntKind.bits, IntKind.signed]
    omega
  rw [hn1]
  clear h hn1
  go_enter Tryd.func76, Tryd.ntmps76
  go_wp2_with fail
  go_region_held3 (fun W => W.cell? ⟨b, 7, none⟩ = some (.int .i64 (X.size : Int)) ∧ W.cell? ⟨b, 2, none⟩ = some (.int .i64 (e2 : Int))) (exact ⟨k7, k2⟩) (fail)
  go_upto_region 4 with (fail)
  obtain ⟨W, hW⟩ : ∃ W, (w.setCell ⟨b, 7, none⟩ (.int .i64 (n1 : Int))).drew = W := ⟨_, rfl⟩
  have H4 := Aside0.mk (show AtD W B b e0 e1 e2 { X with size := n1 } co lv fv tk gv 0 by rw [← hW]; exact (H.out.s7 n1).below (below_drew (Below.refl _ _)))
  have HF4 := Aside0.mk (show Far w W B b lv fv lv fv by rw [← hW]; exact (Far.only (Only.set _ _ _) H.out.hb).trans (Far.of_below (below_drew (Below.refl _ _)) (Nat.le_trans hB (Only.set w 7 _).1.size)))
  rw [hW]
  clear hW k2 k7 z7
  have k8 := H4.out.c8
  have hl : (X.text.length + 1) * 1 ≤ 140737488355328 := by omega
  have hBW := Nat.le_trans hB HF4.out.m.sz
  go_wp2_with ((with_reducible refine gate_builtin (b := .append) (xs := #[.tmp 28, .tmp 30]) rfl ?_); at_builtin; refine print_append_cells (w0 := W) B rfl (.tmp 28) (.tmp 30) 24 5 (.int .u8 0) 1 1 rfl Tryd.underlying24 info5 rfl (by decide) (by decide) lv X.text.length (X.text.map (Value.int .u8)) [.int .u8 c] rfl rfl rfl (fun u hu => by rw [List.mem_singleton] at hu; rw [hu]; rfl) H4.out.l (Below.refl _ _) hBW hl ?_; intro v1 w1 hown1 hb1 hg1 hat1; have hr1 : RowD w1 B v1 (X.text ++ [c]) := (by unfold RowD; rw [List.length_append, List.map_append]; exact hown1); obtain ⟨A1, c1, q1, _, _⟩ := hr1.reads; rw [show (X.text ++ [c]).length = X.text.length + 1 from by simp] at q1; subst q1; have HP := Aside0.mk (H4.out.push hown1 hb1 hg1 hat1); have z8 : w1.frozen? ⟨b, 8, none⟩ = false := blk_frozen ((hg1.block b H4.out.lt (fun e => H4.out.nl e.symm)).trans H4.out.i) 8; have k81 : w1.cell? ⟨b, 8, none⟩ = some lv := (blk_cell ((hg1.block b H4.out.lt (fun e => H4.out.nl e.symm)).trans H4.out.i) 8).trans rfl; have z3 : w1.frozen? ⟨b, 3, none⟩ = false := blk_frozen ((hg1.block b H4.out.lt (fun e => H4.out.nl e.symm)).trans H4.out.i) 3; have k31 : w1.cell? ⟨b, 3, none⟩ = some (.int .i64 (X.place : Int)) := (blk_cell ((hg1.block b H4.out.lt (fun e => H4.out.nl e.symm)).trans H4.out.i) 3).trans rfl; clear hown1 hb1 hg1 hat1 k8 hr1)
  go_ret
  exact ⟨rfl, _, HP.out.1.s3 p, (HF4.out.trans HP.out.2).trans (Far.only (Only.set _ _ _) H.out.hb)⟩
end Go.Proofs.YtmmbpbgcobmifaaDoorH
end
