import Derived.Test.YtmmbpbgcobmifaaGreatDoorZOutletWholesP8
import Derived.Test.YtmmbpbgcobmifaaGreatDoorZOutletWholesP9
import Derived.Test.YtmmbpbgcobmifaaGreatDoorZOutletWholesP5
import Derived.Test.YtmmbpbgcobmifaaGreatDoorZOutletWholesP1
import Derived.Deep.RegionHeld3
import Derived.Lib.SlBytesConst
import Derived.ProofKit
import Derived.OpenShut
import Derived.Deep.Slices
import Derived.SizedLaws
namespace Go.Proofs.YtmmbpbgcobmifaaGreatDoorW.PrintWords
end Go.Proofs.YtmmbpbgcobmifaaGreatDoorW.PrintWords
namespace Go.Proofs.YtmmbpbgcobmifaaGreatDoorW.PrintLast
end Go.Proofs.YtmmbpbgcobmifaaGreatDoorW.PrintLast
namespace Go.Proofs.YtmmbpbgcobmifaaGreatDoorW.PrintMore
end Go.Proofs.YtmmbpbgcobmifaaGreatDoorW.PrintMore
namespace Go.Proofs.YtmmbpbgcobmifaaGreatDoor.Pr
end Go.Proofs.YtmmbpbgcobmifaaGreatDoor.Pr
namespace Go.Proofs.YtmmbpbgcobmifaaGreatDoorM
end Go.Proofs.YtmmbpbgcobmifaaGreatDoorM
namespace Go.Proofs.YtmmbpbgcobmifaaGreatDoorH
end Go.Proofs.YtmmbpbgcobmifaaGreatDoorH
namespace Go.Proofs.YtmmbpbgcobmifaaGreatDoor.Pl
end Go.Proofs.YtmmbpbgcobmifaaGreatDoor.Pl
section
namespace Go.Proofs.YtmmbpbgcobmifaaGreatDoor.Pr
end Go.Proofs.YtmmbpbgcobmifaaGreatDoor.Pr
namespace Go.Proofs.YtmmbpbgcobmifaaGreatDoorH
set_option linter.unusedVariables false
set_option linter.unusedSimpArgs false
open Go Go.RowKit Go.Proofs.YtmmbpbgcobmifaaGreatDoorW.PrintWords Go.Proofs.YtmmbpbgcobmifaaGreatDoorW.PrintLast Go.Proofs.YtmmbpbgcobmifaaGreatDoorW.PrintMore Go.Proofs.YtmmbpbgcobmifaaGreatDoor.Pr Go.Proofs.YtmmbpbgcobmifaaGreatDoorM
def rightW (k s : Int) : Bool := decide (0 ≤ k) && decide (k ≤ 3) && decide (s ≤ 4611686018427387903) && (decide (k = 1) || decide (s = 0))
theorem rightW_in (k s : Int) : intake_Right.f k s = some (rightW k s) := by
  unfold intake_Right.f rightW
  repeat' split
  all_goals simp_all
  all_goals first | rfl | (intros; omega)
theorem rightW_ref (k s : Int) : catchpitref12_Right.f k s = some (rightW k s) := by
  unfold catchpitref12_Right.f rightW
  repeat' split
  all_goals simp_all
  all_goals first | rfl | (intros; omega)
def wholeF (k s : Int) (l : List Int) : Bool := rightW k s && (if k = 2 then decide ((runB 65536 65536 65536 l).2.2 = 0) && decide ((runB 65536 65536 65536 l).2.1 = l.length) else if k = 3 then true else decide ((l.length : Int) = s))
theorem scan_any (A : Option Addr) (c : Nat) (l : List Int) (w : World) (hr : Kd.C (Kd.int .u8) w A l.length l) (hc : l.length ≤ c) (hG : TabOk w) (hb : ByteL l) (hl : l.length ≤ 1000) :
    Calls Tryz.prog 12 #[.slice A l.length c, .agg #[.int .i64 65536, .int .i64 65536, .int .i64 65536]] w fun e w' => ∃ (v0 v1 : Value) (r3 : Int), e = .returned (.tuple #[.agg #[v0, v1, .int .i64 r3], .int .i64 ((runB 65536 65536 65536 l).2.1 : Int), .int .i64 (runB 65536 65536 65536 l).2.2]) ∧ (∃ A0 n0 c0, v0 = .slice A0 n0 c0) ∧ (∃ A1 n1 c1, v1 = .slice A1 n1 c1) ∧ Below w.heap.size w w' := by
  have h := scanF_eq 65536 65536 65536 l hb (by omega) (by omega) (by omega) (by omega)
  by_cases he : (runB 65536 65536 65536 l).2.2 = 0
  · rw [toldB_ok he] at h
    refine (body_Scan.calls A c l _ _ _ _ _ _ _ _ w hr hc hG h).mono ?_
    rintro e w' ⟨v0, v1, rfl, h0, h1, hb⟩
    obtain ⟨y0, y1, rfl⟩ := Kd.R_slice h0
    obtain ⟨z0, z1, rfl⟩ := Kd.R_slice h1
    exact ⟨_, _, _, by rw [he], ⟨_, _, _, rfl⟩, ⟨_, _, _, rfl⟩, hb⟩
  · rw [toldB_err he] at h
    refine (body_Scan.calls A c l _ _ _ _ _ _ _ _ w hr hc hG h).mono ?_
    rintro e w' ⟨v0, v1, rfl, h0, h1, hb⟩
    obtain ⟨y0, y1, rfl⟩ := Kd.R_slice h0
    obtain ⟨z0, z1, rfl⟩ := Kd.R_slice h1
    exact ⟨_, _, _, rfl, ⟨_, _, _, rfl⟩, ⟨_, _, _, rfl⟩, hb⟩
structure FramedAt (w w1 : World) (k s : Int) : Prop where
  b : Below w.heap.size w w1
  l : w1.heap[w.heap.size]? = some (.cells #[.int .i64 k, .int .u64 s] 36 (0, 0))
theorem framed_new (w : World) (k s : Int) : FramedAt w (w.alloc (.cells #[.int .i64 k, .int .u64 s] 36)) k s := ⟨below_alloc (Below.refl _ _) _, World.alloc_heap_new w _⟩
theorem FramedAt.cells {w w1 : World} {k s : Int} (h : FramedAt w w1 k s) {W : World} (hb : Below w1.heap.size w1 W) : W.cell? ⟨w.heap.size, 0, none⟩ = some (.int .i64 k) ∧ W.cell? ⟨w.heap.size, 1, none⟩ = some (.int .u64 s) :=
  ⟨(blk_cell (blk_below h.l hb) 0).trans rfl, (blk_cell (blk_below h.l hb) 1).trans rfl⟩
set_option maxHeartbeats 4000000 in
set_option maxRecDepth 100000 in
theorem whole_calls (k s : Int) (A : Option Addr) (c : Nat) (l : List Int) (w : World) (hr : Kd.C (Kd.int .u8) w A l.length l) (hc : l.length ≤ c) (hG : TabOk w) (hb : ByteL l) (hl : l.length ≤ 1000) :
    Calls Tryz.prog 16 #[.agg #[.int .i64 k, .int .u64 s], .slice A l.length c] w fun e w' => e = .returned (.bool (wholeF k s l)) ∧ Below w.heap.size w w' := by
  obtain ⟨w1, hw1⟩ : ∃ w1, w.alloc (.cells #[.int .i64 k, .int .u64 s] 36) = w1 := ⟨_, rfl⟩
  have HD := Aside0.mk (show FramedAt w w1 k s by rw [← hw1]; exact framed_new w k s)
  have HW := Aside0.mk hw1
  have HG := Aside0.mk (fun (W : World) (h : Below w.heap.size w W) => hG.below h)
  have HSC := Aside0.mk (fun (W : World) (h : Below w.heap.size w W) => scan_any A c l W (Kd.C_below hr h) hc (hG.below h) hb hl)
  have HRT := Aside0.mk (fun (W : World) (h : Below w.heap.size w W) => intake_Right.calls k s _ W (hG.below h) (rightW_in k s))
  have HF := Aside0.mk (show wholeF k s l = (rightW k s && (if k = 2 then decide ((runB 65536 65536 65536 l).2.2 = 0) && decide ((runB 65536 65536 65536 l).2.1 = l.length) else if k = 3 then true else decide ((l.length : Int) = s))) from rfl)
  have hw0 : IntKind.u64.wrap (l.length : Int) = l.length := by
    unfold IntKind.wrap
    simp [IntKind.bits, IntKind.signed]
    omega
  generalize wholeF k s l = q at *
  generalize (runB 65536 65536 65536 l).2.2 = er at *
  generalize (runB 65536 65536 65536 l).2.1 = at_ at *
  generalize rightW k s = rt at *
  clear hr hG hb hw1
  have d := HD.out.cells (Below.refl _ _)
  go_enter Tryz.func16, Tryz.ntmps16
  go_upto_region 1 with (fail)
  rw [HW.out]
  obtain ⟨d0, d1⟩ := d
  go_wp2_with fail
  refine (HRT.out w1 HD.out.b).mono ?_
  rintro e w2 ⟨rfl, hb2⟩
  have B2 := Aside0.mk hb2
  obtain ⟨l0, l1⟩ := HD.out.cells hb2
  clear hb2 d0 d1 HRT
  cases rt with
  | false =>
    obtain rfl : q = false := by rw [HF.out, Bool.false_and]
    go_wp2
    go_ret
    exact ⟨rfl, HD.out.b.trans (B2.out.mono HD.out.b.size)⟩
  | true =>
    by_cases h2 : k = 2
    · subst h2
      have hf : q = (decide (er = 0) && decide (at_ = l.length)) := by rw [HF.out, if_pos rfl, Bool.true_and]
      have HFF := Aside0.mk hf
      clear hf HF
      go_wp2_with fail
      refine (HSC.out w2 (HD.out.b.trans (B2.out.mono HD.out.b.size))).mono ?_
      rintro e w3 ⟨v0, v1, r3, rfl, ⟨A0, n0, c0, rfl⟩, ⟨A1, n1, c1, rfl⟩, hb3⟩
      have B3 := Aside0.mk (B2.out.trans (hb3.mono B2.out.size))
      clear hb3 HSC l0 l1
      by_cases he : er = 0
      · subst he
        by_cases ha : at_ = l.length
        · obtain rfl : q = true := by rw [HFF.out]; simp [ha]
          have ha' : (at_ : Int) = (l.length : Int) := by omega
          have haq : ((at_ : Int) == (l.length : Int)) = true := by rw [beq_iff_eq]; exact ha'
          clear ha
          go_wp2
          go_ret
          exact ⟨rfl, HD.out.b.trans ((below_alloc B3.out _).mono HD.out.b.size)⟩
        · obtain rfl : q = false := by rw [HFF.out]; simp [ha]
          have haq : ((at_ : Int) == (l.length : Int)) = false := by rw [beq_eq_false_iff_ne]; omega
          clear ha
          go_wp2
          go_ret
          exact ⟨rfl, HD.out.b.trans ((below_alloc B3.out _).mono HD.out.b.size)⟩
      · obtain rfl : q = false := by rw [HFF.out]; simp [he]
        have heq : ((er : Int) == 0) = false := by rw [beq_eq_false_iff_ne]; exact he
        go_wp2
        go_ret
        exact ⟨rfl, HD.out.b.trans ((below_alloc B3.out _).mono HD.out.b.size)⟩
    · have h2q : (k == 2) = false := by rw [beq_eq_false_iff_ne]; exact h2
      by_cases h3 : k = 3
      · subst h3
        obtain rfl : q = true := by rw [HF.out]; simp
        go_wp2
        go_ret
        exact ⟨rfl, HD.out.b.trans (B2.out.mono HD.out.b.size)⟩
      · have h3q : (k == 3) = false := by rw [beq_eq_false_iff_ne]; exact h3
        by_cases hs : (l.length : Int) = s
        · obtain rfl : q = true := by rw [HF.out, if_neg h2, if_neg h3]; simp [hs]
          have hsq : ((l.length : Int) == s) = true := by rw [beq_iff_eq]; exact hs
          clear hs
          go_wp2
          go_ret
          exact ⟨rfl, HD.out.b.trans (B2.out.mono HD.out.b.size)⟩
        · obtain rfl : q = false := by rw [HF.out, if_neg h2, if_neg h3]; simp [hs]
          have hsq : ((l.length : Int) == s) = false := by rw [beq_eq_false_iff_ne]; exact hs
          go_wp2
          go_ret
          exact ⟨rfl, HD.out.b.trans (B2.out.mono HD.out.b.size)⟩
set_option maxHeartbeats 4000000 in
set_option maxRecDepth 100000 in
theorem refWhole_calls (k s : Int) (A : Option Addr) (c : Nat) (l : List Int) (w : World) (hr : Kd.C (Kd.int .u8) w A l.length l) (hc : l.length ≤ c) (hG : TabOk w) (hb : ByteL l) (hl : l.length ≤ 1000) :
    Calls Tryz.prog 17 #[.agg #[.int .i64 k, .int .u64 s], .slice A l.length c] w fun e w' => e = .returned (.bool (wholeF k s l)) ∧ Below w.heap.size w w' := by
  obtain ⟨w1, hw1⟩ : ∃ w1, w.alloc (.cells #[.int .i64 k, .int .u64 s] 36) = w1 := ⟨_, rfl⟩
  have HD := Aside0.mk (show FramedAt w w1 k s by rw [← hw1]; exact framed_new w k s)
  have HW := Aside0.mk hw1
  have HG := Aside0.mk (fun (W : World) (h : Below w.heap.size w W) => hG.below h)
  have HSC := Aside0.mk (fun (W : World) (h : Below w.heap.size w W) => scan8_calls A c l 65536 65536 65536 W (Kd.C_below hr h) hc (hG.below h) hb (by omega))
  have HRT := Aside0.mk (fun (W : World) (h : Below w.heap.size w W) => catchpitref12_Right.calls k s _ W (hG.below h) (rightW_ref k s))
  have HRN := Aside0.mk (show mrun (envM 65536 65536 65536) minit l 0 = ((runB 65536 65536 65536 l).1, (runB 65536 65536 65536 l).2.1, (runB 65536 65536 65536 l).2.2) from rfl)
  have HF := Aside0.mk (show wholeF k s l = (rightW k s && (if k = 2 then decide ((runB 65536 65536 65536 l).2.2 = 0) && decide ((runB 65536 65536 65536 l).2.1 = l.length) else if k = 3 then true else decide ((l.length : Int) = s))) from rfl)
  have hw0 : IntKind.u64.wrap (l.length : Int) = l.length := by
    unfold IntKind.wrap
    simp [IntKind.bits, IntKind.signed]
    omega
  generalize wholeF k s l = q at *
  generalize (runB 65536 65536 65536 l).2.2 = er at *
  generalize (runB 65536 65536 65536 l).2.1 = at_ at *
  generalize (runB 65536 65536 65536 l).1 = X0 at *
  generalize rightW k s = rt at *
  clear hr hG hb hw1
  have d := HD.out.cells (Below.refl _ _)
  go_enter Tryz.func17, Tryz.ntmps17
  go_upto_region 1 with (fail)
  rw [HW.out]
  obtain ⟨d0, d1⟩ := d
  go_wp2_with fail
  refine (HRT.out w1 HD.out.b).mono ?_
  rintro e w2 ⟨rfl, hb2⟩
  have B2 := Aside0.mk hb2
  obtain ⟨l0, l1⟩ := HD.out.cells hb2
  clear hb2 d0 d1 HRT
  cases rt with
  | false =>
    obtain rfl : q = false := by rw [HF.out, Bool.false_and]
    go_wp2
    go_ret
    exact ⟨rfl, HD.out.b.trans (B2.out.mono HD.out.b.size)⟩
  | true =>
    by_cases h2 : k = 2
    · subst h2
      have hf : q = (decide (er = 0) && decide (at_ = l.length)) := by rw [HF.out, if_pos rfl, Bool.true_and]
      have HFF := Aside0.mk hf
      clear hf HF
      go_wp2_with fail
      refine (HSC.out w2 (HD.out.b.trans (B2.out.mono HD.out.b.size))).mono ?_
      rintro e w3 ⟨X, at2, er2, B0, B1, j0, j1, rfl, hrun, _, _, _, _, hb3⟩
      obtain ⟨rfl, rfl, rfl⟩ : X0 = X ∧ at_ = at2 ∧ er = er2 := by
        rw [HRN.out] at hrun
        simp only [Prod.mk.injEq] at hrun
        exact hrun
      have B3 := Aside0.mk (B2.out.trans (hb3.mono B2.out.size))
      clear hb3 HSC l0 l1 hrun HRN
      go_upto_region 5 with (fail)
      obtain ⟨w4, hw4⟩ : ∃ w4, w3.alloc (.cells #[Value.int .i64 (X0.place : Int), Value.int .u64 (X0.n : Int), Value.int .i64 (X0.count : Int), Value.int .i64 (X0.lines : Int), Value.int .i64 (X0.size : Int), Value.string (strOfNums X0.text), Value.slice B0 X0.data.length j0, Value.slice B1 X0.fields.length j1, Value.int .i64 (at_ : Int), Value.int .i64 er] 84) = w4 := ⟨_, rfl⟩
      have B4 := Aside0.mk (show Below w1.heap.size w1 w4 by rw [← hw4]; exact below_alloc B3.out _)
      have hgt : w4.heap[w3.heap.size]? = some (.cells #[Value.int .i64 (X0.place : Int), Value.int .u64 (X0.n : Int), Value.int .i64 (X0.count : Int), Value.int .i64 (X0.lines : Int), Value.int .i64 (X0.size : Int), Value.string (strOfNums X0.text), Value.slice B0 X0.data.length j0, Value.slice B1 X0.fields.length j1, Value.int .i64 (at_ : Int), Value.int .i64 er] 84 (0, 0)) := by rw [← hw4]; exact World.alloc_heap_new w3 _
      have e8 : w4.cell? ⟨w3.heap.size, 8, none⟩ = some (.int .i64 (at_ : Int)) := (blk_cell hgt 8).trans rfl
      have e9 : w4.cell? ⟨w3.heap.size, 9, none⟩ = some (.int .i64 er) := (blk_cell hgt 9).trans rfl
      rw [hw4]
      clear hw4 hgt
      by_cases he : er = 0
      · subst he
        by_cases ha : at_ = l.length
        · obtain rfl : q = true := by rw [HFF.out]; simp [ha]
          have haq : ((at_ : Int) == (l.length : Int)) = true := by rw [beq_iff_eq]; omega
          clear ha
          go_wp2
          go_ret
          exact ⟨rfl, HD.out.b.trans (B4.out.mono HD.out.b.size)⟩
        · obtain rfl : q = false := by rw [HFF.out]; simp [ha]
          have haq : ((at_ : Int) == (l.length : Int)) = false := by rw [beq_eq_false_iff_ne]; omega
          clear ha
          go_wp2
          go_ret
          exact ⟨rfl, HD.out.b.trans (B4.out.mono HD.out.b.size)⟩
      · obtain rfl : q = false := by rw [HFF.out]; simp [he]
        have heq : ((er : Int) == 0) = false := by rw [beq_eq_false_iff_ne]; exact he
        go_wp2
        go_ret
        exact ⟨rfl, HD.out.b.trans (B4.out.mono HD.out.b.size)⟩
    · have h2q : (k == 2) = false := by rw [beq_eq_false_iff_ne]; exact h2
      by_cases h3 : k = 3
      · subst h3
        obtain rfl : q = true := by rw [HF.out]; simp
        go_wp2
        go_ret
        exact ⟨rfl, HD.out.b.trans (B2.out.mono HD.out.b.size)⟩
      · have h3q : (k == 3) = false := by rw [beq_eq_false_iff_ne]; exact h3
        by_cases hs : (l.length : Int) = s
        · obtain rfl : q = true := by rw [HF.out, if_neg h2, if_neg h3]; simp [hs]
          have hsq : ((l.length : Int) == s) = true := by rw [beq_iff_eq]; exact hs
          clear hs
          go_wp2
          go_ret
          exact ⟨rfl, HD.out.b.trans (B2.out.mono HD.out.b.size)⟩
        · obtain rfl : q = false := by rw [HF.out, if_neg h2, if_neg h3]; simp [hs]
          have hsq : ((l.length : Int) == s) = false := by rw [beq_eq_false_iff_ne]; exact hs
          go_wp2
          go_ret
          exact ⟨rfl, HD.out.b.trans (B2.out.mono HD.out.b.size)⟩
end Go.Proofs.YtmmbpbgcobmifaaGreatDoorH
end
section
namespace Go.Proofs.YtmmbpbgcobmifaaGreatDoor.Pr
end Go.Proofs.YtmmbpbgcobmifaaGreatDoor.Pr
namespace Go.Proofs.YtmmbpbgcobmifaaGreatDoor.Pl
set_option linter.unusedVariables false
set_option linter.unusedSimpArgs false
open Go Go.RowKit Go.Proofs.YtmmbpbgcobmifaaGreatDoorH Go.Proofs.YtmmbpbgcobmifaaGreatDoor.Pr Go.Proofs.YtmmbpbgcobmifaaGreatDoorW.PrintWords Go.Proofs.YtmmbpbgcobmifaaGreatDoorW.PrintLast Go.Proofs.YtmmbpbgcobmifaaGreatDoorW.PrintMore Go.Proofs.YtmmbpbgcobmifaaGreatDoorM
theorem lit_row {W : World} {k : Nat} {l : List Int} {g : Nat × Nat} (hh : W.heap[k]? = some (.cells (l.map (Value.int .u8)).toArray 5 g)) (hl : l.length ≤ 1000) : Kd.C (Kd.int .u8) W (some ⟨k, 0, none⟩) l.length l := by
  refine ⟨rfl, by show l.length ≤ 9223372036854775807; omega, fun _ => ⟨_, rfl, fun j y hy => ⟨[.int .u8 y], rfl, rfl, fun i u hu => ?_⟩⟩⟩
  rcases i with _ | i
  · cases hu
    show W.cell? ((⟨k, 0, none⟩ : Addr).add (j * 1 + 0)) = _
    rw [show j * 1 + 0 = j by omega]
    exact World.news_of_block hh j _ (by simp [hy])
  · simp at hu
set_option maxHeartbeats 4000000 in
set_option maxRecDepth 100000 in
theorem wakes14_calls (w : World) :
    Calls Tryz.prog 15 #[] w fun e w' => e = .returned (.bool true) ∧ Below w.heap.size w w' := by
  have hbd : ∀ W : World, (Instr.build 36 #[(0, .int .i64 1), (1, .int .u64 3)]).run Tryz.prog W = .ok (.agg #[.int .i64 1, .int .u64 3]) W := fun _ => by kernel_rfl
  have HN := Aside0.mk (out_new w)
  go_enter Tryz.func15, Tryz.ntmps15
  go_wp2_with fail
  refine HN.out.mono ?_
  rintro e w1 ⟨o, b, rfl, ho1, he1, hwo, hb1⟩
  obtain ⟨B, hB⟩ : ∃ B, w.heap.size = B := ⟨_, rfl⟩
  rw [hB] at he1 hb1 hwo
  have HB := Aside0.mk hB
  have HO1 := Aside0.mk ho1
  have HE1 := Aside0.mk he1
  have HB1 := Aside0.mk hb1
  have HWO := Aside0.mk hwo
  clear HN hbd ho1 he1 hwo hb1 hB
  have hne : ∀ W : World, (binOp .eql 77 (.pointer (some ⟨o, 0, none⟩)) (.pointer none)).run Tryz.prog W = .ok (.bool false) W := fun _ => by kernel_rfl
  have hcc := Lib.run_convert_bytes_const (P := Tryz.prog) w1 25 5 #[.int .u8 97, .int .u8 98] 2 2 Tryz.underlying25 Tryz.underlying5
  go_wp2_with fail
  obtain ⟨w2, hw2⟩ : ∃ w2, w1.alloc (.cells #[.int .u8 97, .int .u8 98] 5 (2, 3)) = w2 := ⟨_, rfl⟩
  have hb2 : Below w1.heap.size w1 w2 := by rw [← hw2]; exact (Below.refl _ w1).alloc (Nat.le_refl _) _
  have hl2 : w2.heap[w1.heap.size]? = some (.cells (([97, 98] : List Int).map (Value.int .u8)).toArray 5 (2, 3)) := by rw [← hw2]; exact heap_alloc_new w1 _
  have HB2 := Aside0.mk (HB1.out.trans (hb2.mono (Nat.le_trans HWO.out (Nat.le_of_lt HO1.out.lt))))
  have HP := Aside0.mk (out_put_more B o b 0 3 0 0 (.slice none 0 0) ⟨w1.heap.size, 0, none⟩ 2 [97, 98] w2 (HO1.out.below hb2) (HE1.out.below hb2) (fun W hW => lit_row (hW _ _ _ _ (by decide) hl2) (by decide)) (by decide) (by decide) (by decide) (by decide) (by decide) HWO.out)
  rw [hw2]
  clear hw2 hl2 hb2 hcc
  refine HP.out.mono ?_
  rintro e w3 ⟨v3, rfl, hr3, ho3, he3, hb3, hk3⟩
  obtain ⟨A3, c3, rfl, _, _⟩ := hr3.reads
  have HR3 := Aside0.mk hr3
  have HO3 := Aside0.mk (show OutAt w3 o b 0 (.slice none 0 0) false 2 from ho3)
  have HE3 := Aside0.mk (show EncAt w3 B b 1 2 3 false from he3)
  have HB3 := Aside0.mk (HB2.out.trans hb3)
  clear HP hr3 ho3 he3 hb3 hk3
  have hcc := Lib.run_convert_bytes_const (P := Tryz.prog) w3 25 5 #[.int .u8 99] 1 1 Tryz.underlying25 Tryz.underlying5
  go_wp2_with fail
  obtain ⟨w4, hw4⟩ : ∃ w4, w3.alloc (.cells #[.int .u8 99] 5 (1, 2)) = w4 := ⟨_, rfl⟩
  have hb4 : Below w3.heap.size w3 w4 := by rw [← hw4]; exact (Below.refl _ w3).alloc (Nat.le_refl _) _
  have hl4 : w4.heap[w3.heap.size]? = some (.cells (([((99 : Nat) : Int)] : List Int).map (Value.int .u8)).toArray 5 (1, 2)) := by rw [← hw4]; exact heap_alloc_new w3 _
  have hle3 : B ≤ w3.heap.size := Nat.le_trans HWO.out (Nat.le_of_lt HO3.out.lt)
  have HB4 := Aside0.mk (HB3.out.trans (hb4.mono hle3))
  have HR4 := Aside0.mk (HR3.out.keep (KeepR.of_below hb4))
  have HP := Aside0.mk (out_put_last0 B o b 2 3 0 2 99 1 0 rfl rfl (.slice none 0 0) ⟨w3.heap.size, 0, none⟩ 1 w4 (HO3.out.below hb4) (HE3.out.below hb4) (fun W hW => lit_row (hW _ _ _ _ (by decide) hl4) (by show 1 ≤ 1000; decide)) (by decide) (by decide) (by decide) HWO.out)
  rw [hw4]
  clear hw4 hl4 hb4 hcc hle3
  refine HP.out.mono ?_
  rintro e w5 ⟨A5, c5, rfl, ho5, he5, hb5, hk5⟩
  have HB5 := Aside0.mk (HB4.out.trans hb5)
  have HR5 := Aside0.mk (HR4.out.keep hk5)
  have HP6 := Aside0.mk (out_end B o b 3 99 2 0 w5 ho5 he5 (by decide) (by decide) HWO.out)
  clear HP ho5 he5 hb5 hk5
  go_wp2_with fail
  refine HP6.out.mono ?_
  rintro e w6 ⟨v6, rfl, hr6, hb6, hk6⟩
  obtain ⟨A6, c6, rfl, hc6, hC6⟩ := hr6.reads
  have B6 := Aside0.mk (HB5.out.trans hb6)
  obtain ⟨_, _, q, hc7, hC7⟩ := (HR5.out.keep hk6).reads
  cases q
  have hcv6 := Kd.C_string (P := Tryz.prog) (c := c6) Tryz.underlying25 Tryz.underlying5 Tryz.underlying9 hC6
  have hcv7 := Kd.C_string (P := Tryz.prog) (c := c3) Tryz.underlying25 Tryz.underlying5 Tryz.underlying9 hC7
  rw [show strOfNums [((99 : Nat) : Int)] = ⟨#[99]⟩ by decide] at hcv6
  rw [show strOfNums [97, 98] = ⟨#[97, 98]⟩ by decide] at hcv7
  simp only [List.length_cons, List.length_nil] at hcv6 hcv7
  clear hr6 hb6 hk6 HP6 hc6 hC6 hc7 hC7
  go_wp2
  go_ret
  exact ⟨rfl, by rw [HB.out]; exact B6.out⟩
structure S36 where
  f0 : Int
  f1 : Int
def k36 : Kd S36 := Kd.iso (Kd.pair (Kd.int .i64) (Kd.int .u64)) (fun x : S36 => (x.f0, x.f1))
theorem k36_open {w : World} {x : S36} {cs : List Value} (h : k36.K w x cs) : cs = [.int .i64 x.f0, .int .u64 x.f1] := by
  obtain ⟨a, b, rfl, ha, hb⟩ := h
  have ha : a = [.int .i64 x.f0] := ha
  have hb : b = [.int .u64 x.f1] := hb
  rw [ha, hb]
  rfl
set_option maxHeartbeats 4000000 in
set_option maxRecDepth 100000 in
theorem wholes_go (k s : Int) (A : Option Addr) (c : Nat) (l : List Int) (w : World) (hr : Kd.C (Kd.int .u8) w A l.length l) (hc : l.length ≤ c) (hG : TabOk w) (hb : ByteL l) (h5 : l.length ≤ 500) :
    Calls Tryz.prog 4 #[.agg #[.int .i64 k, .int .u64 s], .slice A l.length c] w fun e w' => e = .returned (.bool true) ∧ Below w.heap.size w w' := by
  obtain ⟨w1, hw1⟩ : ∃ w1, w.alloc (.cells #[.int .i64 k, .int .u64 s] 36) = w1 := ⟨_, rfl⟩
  have HD := Aside0.mk (show FramedAt w w1 k s by rw [← hw1]; exact framed_new w k s)
  have HW := Aside0.mk hw1
  have HK := Aside0.mk (fun (W : World) (h : Below w.heap.size w W) => (⟨Kd.C_below hr h, hG.below h⟩ : Kd.C (Kd.int .u8) W A l.length l ∧ TabOk W))
  have HBY := Aside0.mk hb
  have hmax : l.length ≤ 9223372036854775807 := hr.2.1
  clear hr hG hb hw1
  have HA := Aside0.mk (fun (W : World) (h : Below w.heap.size w W) => whole_calls k s A c l W (HK.out W h).1 hc (HK.out W h).2 HBY.out (by omega))
  have HR := Aside0.mk (fun (W : World) (h : Below w.heap.size w W) => refWhole_calls k s A c l W (HK.out W h).1 hc (HK.out W h).2 HBY.out (by omega))
  generalize wholeF k s l = q at *
  have h5' : ¬ (500 : Int) < (l.length : Int) := by omega
  have h52 : decide ((500 : Int) < (l.length : Int)) = false := decide_eq_false h5'
  go_enter Tryz.func4, Tryz.ntmps4
  go_upto_region 1 with (fail)
  rw [HW.out]
  go_wp2_with fail
  refine (wakes14_calls w1).mono ?_
  rintro e w2 ⟨rfl, hb2⟩
  have B2 := Aside0.mk hb2
  clear hb2
  go_upto_region 3 with (fail)
  have BC := Aside0.mk (below_drew B2.out)
  refine wp_region_held_drew (S := (fun W => W.cell? ⟨w.heap.size, 0, none⟩ = some (.int .i64 k) ∧ W.cell? ⟨w.heap.size, 1, none⟩ = some (.int .u64 s))) (by kernel_rfl) ?_ (fun hHeld => ?_)
  · exact HD.out.cells BC.out
  refine take_at (i := 0) (take_d rfl) ?_
  intro h_i
  refine wpAnyH_take (v := ?_) h_i (by kernel_rfl) (by kernel_rfl) (by kernel_rfl) (fun _ _ _ h => h) (Or.inl ⟨by rfl, ?_⟩) (by assumption) ?_
  case refine_2 => (intro w hSw; (try dsimp only at hSw); go_simp; (try with_reducible rfl))
  clear h_i
  try simp only [Act.put, List.setIfInBounds_toArray, List.set_cons_zero, List.set_cons_succ]
  refine take_at (i := 1) (take_d rfl) ?_
  intro h_i
  refine wpAnyH_take (v := ?_) h_i (by kernel_rfl) (by kernel_rfl) (by kernel_rfl) (fun _ _ _ h => h) (Or.inl ⟨by rfl, ?_⟩) (by assumption) ?_
  case refine_2 => (intro w hSw; (try dsimp only at hSw); go_simp; (try with_reducible rfl))
  clear h_i
  try simp only [Act.put, List.setIfInBounds_toArray, List.set_cons_zero, List.set_cons_succ]
  refine take_at (i := 2) (take_d rfl) ?_
  intro h_i
  refine wpAnyH_take (v := ?_) h_i (by kernel_rfl) (by kernel_rfl) (by kernel_rfl) (fun _ _ _ h => h) (Or.inl ⟨by rfl, ?_⟩) (by assumption) ?_
  case refine_2 => (intro w hSw; (try dsimp only at hSw); go_simp; (try with_reducible rfl))
  clear h_i
  try simp only [Act.put, List.setIfInBounds_toArray, List.set_cons_zero, List.set_cons_succ]
  refine take_at (i := 3) (take_d rfl) ?_
  intro h_i
  refine wpAnyH_take (v := ?_) h_i (by kernel_rfl) (by kernel_rfl) (by kernel_rfl) (fun _ _ _ h => h) (Or.inl ⟨by rfl, ?_⟩) (by assumption) ?_
  case refine_2 => (intro w hSw; (try dsimp only at hSw); go_simp; (try with_reducible rfl))
  clear h_i
  try simp only [Act.put, List.setIfInBounds_toArray, List.set_cons_zero, List.set_cons_succ]
  refine take_at (i := 4) (take_d rfl) ?_
  intro h_i
  refine wpAnyH_take (v := ?_) h_i (by kernel_rfl) (by kernel_rfl) (by kernel_rfl) (fun _ _ _ h => h) (Or.inl ⟨by rfl, ?_⟩) (by assumption) ?_
  case refine_2 => (intro w hSw; (try dsimp only at hSw); go_simp; (try with_reducible rfl))
  clear h_i
  try simp only [Act.put, List.setIfInBounds_toArray, List.set_cons_zero, List.set_cons_succ]
  refine take_at (i := 5) (take_d rfl) ?_
  intro h_i
  refine wpAnyH_take (v := ?_) h_i (by kernel_rfl) (by kernel_rfl) (by kernel_rfl) (fun _ _ _ h => h) (Or.inl ⟨by rfl, ?_⟩) (by assumption) ?_
  case refine_2 => (intro w hSw; (try dsimp only at hSw); go_simp; (try with_reducible rfl))
  clear h_i
  try simp only [Act.put, List.setIfInBounds_toArray, List.set_cons_zero, List.set_cons_succ]
  refine take_at (i := 7) (take_d rfl) ?_
  intro h_i
  refine wpAnyH_take (v := ?_) h_i (by kernel_rfl) (by kernel_rfl) (by kernel_rfl) (fun _ _ _ h => h) (Or.inl ⟨by rfl, ?_⟩) (by assumption) ?_
  case refine_2 => (intro w hSw; (try dsimp only at hSw); go_simp; (try with_reducible rfl))
  clear h_i
  try simp only [Act.put, List.setIfInBounds_toArray, List.set_cons_zero, List.set_cons_succ]
  refine take_at (i := 8) (take_d rfl) ?_
  intro h_i
  refine wpAnyH_take (v := ?_) h_i (by kernel_rfl) (by kernel_rfl) (by kernel_rfl) (fun _ _ _ h => h) (Or.inl ⟨by rfl, ?_⟩) (by assumption) ?_
  case refine_2 => (intro w hSw; (try dsimp only at hSw); go_simp; (try with_reducible rfl))
  clear h_i
  try simp only [Act.put, List.setIfInBounds_toArray, List.set_cons_zero, List.set_cons_succ]
  refine wpAnyH_ready (rs := [6]) (by kernel_rfl) (by simp) ?_
  refine AllReadyH.cons (take_d rfl) (fun zK hK => ?_) AllReadyH.nil
  go_simp
  refine (HA.out _ (HD.out.b.trans (BC.out.mono HD.out.b.size))).mono ?_
  rintro e w3 ⟨rfl, hb3⟩
  have BC := Aside0.mk (BC.out.trans (hb3.mono BC.out.size))
  clear hb3
  go_wp2_with fail
  refine hK.out _ _ ?_ (fun hHeld2 => ?_)
  · exact HD.out.cells BC.out
  clear hK zK hHeld
  have hHeld := hHeld2
  clear hHeld2
  try simp only [Act.put, List.setIfInBounds_toArray, List.set_cons_zero, List.set_cons_succ]
  refine wpAnyH_ready (rs := [9]) (by kernel_rfl) (by simp) ?_
  refine AllReadyH.cons (take_d rfl) (fun zK hK => ?_) AllReadyH.nil
  go_simp
  refine (HR.out _ (HD.out.b.trans (BC.out.mono HD.out.b.size))).mono ?_
  rintro e w4 ⟨rfl, hb4⟩
  have BC := Aside0.mk (BC.out.trans (hb4.mono BC.out.size))
  clear hb4
  go_wp2_with fail
  refine hK.out _ _ ?_ (fun hHeld2 => ?_)
  · exact HD.out.cells BC.out
  clear hK zK hHeld
  have hHeld := hHeld2
  clear hHeld2
  try simp only [Act.put, List.setIfInBounds_toArray, List.set_cons_zero, List.set_cons_succ]
  refine take_at (i := 10) (take_d rfl) ?_
  intro h_i
  refine wpAnyH_take (v := ?_) h_i (by kernel_rfl) (by kernel_rfl) (by kernel_rfl) (fun _ _ _ h => h) (Or.inl ⟨by rfl, ?_⟩) (by assumption) ?_
  case refine_2 => (intro w hSw; (try dsimp only at hSw); go_simp; (try with_reducible rfl))
  clear h_i
  try simp only [Act.put, List.setIfInBounds_toArray, List.set_cons_zero, List.set_cons_succ]
  refine take_at (i := 11) (take_d rfl) ?_
  intro h_i
  refine wpAnyH_take (v := ?_) h_i (by kernel_rfl) (by kernel_rfl) (by kernel_rfl) (fun _ _ _ h => h) (Or.inl ⟨by rfl, ?_⟩) (by assumption) ?_
  case refine_2 => (intro w hSw; (try dsimp only at hSw); go_simp; (try with_reducible rfl))
  clear h_i
  try simp only [Act.put, List.setIfInBounds_toArray, List.set_cons_zero, List.set_cons_succ]
  refine take_at (i := 12) (take_d rfl) ?_
  intro h_i
  refine wpAnyH_take (v := ?_) h_i (by kernel_rfl) (by kernel_rfl) (by kernel_rfl) (fun _ _ _ h => h) (Or.inl ⟨by rfl, ?_⟩) (by assumption) ?_
  case refine_2 => (intro w hSw; (try dsimp only at hSw); go_simp; (try with_reducible rfl))
  clear h_i
  try simp only [Act.put, List.setIfInBounds_toArray, List.set_cons_zero, List.set_cons_succ]
  refine wpAnyH_done (by kernel_rfl) ?_ _
  go_wp2
  go_ret
  exact ⟨by simp, HD.out.b.trans (BC.out.mono HD.out.b.size)⟩
set_option maxHeartbeats 4000000 in
set_option maxRecDepth 100000 in
theorem wholes_out (k s : Int) (A : Option Addr) (c : Nat) (l : List Int) (w : World) (hr : Kd.C (Kd.int .u8) w A l.length l) (hc : l.length ≤ c) (hG : TabOk w) (hb : ByteL l) (h5 : 500 < l.length) :
    Calls Tryz.prog 4 #[.agg #[.int .i64 k, .int .u64 s], .slice A l.length c] w fun e w' => e = .returned (.bool true) ∧ Below w.heap.size w w' := by
  obtain ⟨w1, hw1⟩ : ∃ w1, w.alloc (.cells #[.int .i64 k, .int .u64 s] 36) = w1 := ⟨_, rfl⟩
  have HD := Aside0.mk (show FramedAt w w1 k s by rw [← hw1]; exact framed_new w k s)
  have HW := Aside0.mk hw1
  have HK := Aside0.mk (fun (W : World) (h : Below w.heap.size w W) => (⟨Kd.C_below hr h, hG.below h⟩ : Kd.C (Kd.int .u8) W A l.length l ∧ TabOk W))
  have HBY := Aside0.mk hb
  have hmax : l.length ≤ 9223372036854775807 := hr.2.1
  clear hr hG hb hw1
  have h5' : (500 : Int) < (l.length : Int) := by omega
  have h52 : decide ((500 : Int) < (l.length : Int)) = true := decide_eq_true h5'
  go_enter Tryz.func4, Tryz.ntmps4
  go_upto_region 1 with (fail)
  rw [HW.out]
  go_wp2_with fail
  refine (wakes14_calls w1).mono ?_
  rintro e w2 ⟨rfl, hb2⟩
  have B2 := Aside0.mk hb2
  clear hb2
  go_upto_region 3 with (fail)
  have BC := Aside0.mk (below_drew B2.out)
  refine wp_region_held_drew (S := (fun _ => True)) (by kernel_rfl) ?_ (fun hHeld => ?_)
  · trivial
  refine take_at (i := 0) (take_d rfl) ?_
  intro h_i
  refine wpAnyH_take (v := ?_) h_i (by kernel_rfl) (by kernel_rfl) (by kernel_rfl) (fun _ _ _ h => h) (Or.inl ⟨by rfl, ?_⟩) (by assumption) ?_
  case refine_2 => (intro w hSw; (try dsimp only at hSw); go_simp; (try with_reducible rfl))
  clear h_i
  try simp only [Act.put, List.setIfInBounds_toArray, List.set_cons_zero, List.set_cons_succ]
  refine take_at (i := 1) (take_d rfl) ?_
  intro h_i
  refine wpAnyH_take (v := ?_) h_i (by kernel_rfl) (by kernel_rfl) (by kernel_rfl) (fun _ _ _ h => h) (Or.inl ⟨by rfl, ?_⟩) (by assumption) ?_
  case refine_2 => (intro w hSw; (try dsimp only at hSw); go_simp; (try with_reducible rfl))
  clear h_i
  try simp only [Act.put, List.setIfInBounds_toArray, List.set_cons_zero, List.set_cons_succ]
  refine take_at (i := 2) (take_d rfl) ?_
  intro h_i
  refine wpAnyH_take (v := ?_) h_i (by kernel_rfl) (by kernel_rfl) (by kernel_rfl) (fun _ _ _ h => h) (Or.inl ⟨by rfl, ?_⟩) (by assumption) ?_
  case refine_2 => (intro w hSw; (try dsimp only at hSw); go_simp; (try with_reducible rfl))
  clear h_i
  try simp only [Act.put, List.setIfInBounds_toArray, List.set_cons_zero, List.set_cons_succ]
  refine take_at (i := 3) (take_d rfl) ?_
  intro h_i
  refine wpAnyH_take (v := ?_) h_i (by kernel_rfl) (by kernel_rfl) (by kernel_rfl) (fun _ _ _ h => h) (Or.inl ⟨by rfl, ?_⟩) (by assumption) ?_
  case refine_2 => (intro w hSw; (try dsimp only at hSw); go_simp; (try with_reducible rfl))
  clear h_i
  try simp only [Act.put, List.setIfInBounds_toArray, List.set_cons_zero, List.set_cons_succ]
  refine take_at (i := 4) (take_d rfl) ?_
  intro h_i
  refine wpAnyH_skip h_i (by kernel_rfl) (by kernel_rfl) (by kernel_rfl) (fun _ _ _ h => h) (by rfl) (by assumption) ?_
  clear h_i
  try simp only [Act.put, List.setIfInBounds_toArray, List.set_cons_zero, List.set_cons_succ]
  refine take_at (i := 5) (take_d rfl) ?_
  intro h_i
  refine wpAnyH_skip h_i (by kernel_rfl) (by kernel_rfl) (by kernel_rfl) (fun _ _ _ h => h) (by rfl) (by assumption) ?_
  clear h_i
  try simp only [Act.put, List.setIfInBounds_toArray, List.set_cons_zero, List.set_cons_succ]
  refine take_at (i := 6) (take_d rfl) ?_
  intro h_i
  refine wpAnyH_skip h_i (by kernel_rfl) (by kernel_rfl) (by kernel_rfl) (fun _ _ _ h => h) (by rfl) (by assumption) ?_
  clear h_i
  try simp only [Act.put, List.setIfInBounds_toArray, List.set_cons_zero, List.set_cons_succ]
  refine take_at (i := 7) (take_d rfl) ?_
  intro h_i
  refine wpAnyH_skip h_i (by kernel_rfl) (by kernel_rfl) (by kernel_rfl) (fun _ _ _ h => h) (by rfl) (by assumption) ?_
  clear h_i
  try simp only [Act.put, List.setIfInBounds_toArray, List.set_cons_zero, List.set_cons_succ]
  refine take_at (i := 8) (take_d rfl) ?_
  intro h_i
  refine wpAnyH_skip h_i (by kernel_rfl) (by kernel_rfl) (by kernel_rfl) (fun _ _ _ h => h) (by rfl) (by assumption) ?_
  clear h_i
  try simp only [Act.put, List.setIfInBounds_toArray, List.set_cons_zero, List.set_cons_succ]
  refine take_at (i := 9) (take_d rfl) ?_
  intro h_i
  refine wpAnyH_skip h_i (by kernel_rfl) (by kernel_rfl) (by kernel_rfl) (fun _ _ _ h => h) (by rfl) (by assumption) ?_
  clear h_i
  try simp only [Act.put, List.setIfInBounds_toArray, List.set_cons_zero, List.set_cons_succ]
  refine take_at (i := 10) (take_d rfl) ?_
  intro h_i
  refine wpAnyH_skip h_i (by kernel_rfl) (by kernel_rfl) (by kernel_rfl) (fun _ _ _ h => h) (by rfl) (by assumption) ?_
  clear h_i
  try simp only [Act.put, List.setIfInBounds_toArray, List.set_cons_zero, List.set_cons_succ]
  refine take_at (i := 11) (take_d rfl) ?_
  intro h_i
  refine wpAnyH_take (v := ?_) h_i (by kernel_rfl) (by kernel_rfl) (by kernel_rfl) (fun _ _ _ h => h) (Or.inl ⟨by rfl, ?_⟩) (by assumption) ?_
  case refine_2 => (intro w hSw; (try dsimp only at hSw); go_simp; (try with_reducible rfl))
  clear h_i
  try simp only [Act.put, List.setIfInBounds_toArray, List.set_cons_zero, List.set_cons_succ]
  refine take_at (i := 12) (take_d rfl) ?_
  intro h_i
  refine wpAnyH_take (v := ?_) h_i (by kernel_rfl) (by kernel_rfl) (by kernel_rfl) (fun _ _ _ h => h) (Or.inl ⟨by rfl, ?_⟩) (by assumption) ?_
  case refine_2 => (intro w hSw; (try dsimp only at hSw); go_simp; (try with_reducible rfl))
  clear h_i
  try simp only [Act.put, List.setIfInBounds_toArray, List.set_cons_zero, List.set_cons_succ]
  refine wpAnyH_done (by kernel_rfl) ?_ _
  go_wp2
  go_ret
  exact ⟨rfl, HD.out.b.trans (BC.out.mono HD.out.b.size)⟩
def catchpitlaw14_OutletWholes.f (x0 x1 : Int) (s : List Int) : Option Bool := if byteB s = true then some true else none
theorem catchpitlaw14_OutletWholes.calls (a0_0 a0_1 : Int) (A1 : Option Addr) (c1 : Nat) (l1 : List Int) (r : Bool) (w : World) (hr1 : Kd.C (Kd.int .u8) w A1 l1.length l1) (hc1 : l1.length ≤ c1) (hG : TabOk w) (h : catchpitlaw14_OutletWholes.f a0_0 a0_1 l1 = some r) :
    Calls Tryz.prog 4 #[.agg #[.int .i64 a0_0, .int .u64 a0_1], .slice A1 l1.length c1] w fun e w' => e = .returned (.bool r) ∧ Below w.heap.size w w' := by
  unfold catchpitlaw14_OutletWholes.f at h
  split at h
  · rename_i hh
    cases h
    by_cases h5 : l1.length ≤ 500
    · exact wholes_go a0_0 a0_1 A1 c1 l1 w hr1 hc1 hG (byteB_iff.1 hh) h5
    · exact wholes_out a0_0 a0_1 A1 c1 l1 w hr1 hc1 hG (byteB_iff.1 hh) (by omega)
  · cases h
end Go.Proofs.YtmmbpbgcobmifaaGreatDoor.Pl
end
section
namespace Go.Proofs.YtmmbpbgcobmifaaGreatDoor.Pr
end Go.Proofs.YtmmbpbgcobmifaaGreatDoor.Pr
namespace Go.Proofs.YtmmbpbgcobmifaaGreatDoor.Pl
end Go.Proofs.YtmmbpbgcobmifaaGreatDoor.Pl
namespace Go.Proofs.YtmmbpbgcobmifaaGreatDoor.Pure
open Go.RowKit Go.Proofs.YtmmbpbgcobmifaaGreatDoorH Go.Proofs.YtmmbpbgcobmifaaGreatDoor.Pr Go.Proofs.YtmmbpbgcobmifaaGreatDoor.Pl Go.Proofs.YtmmbpbgcobmifaaGreatDoorW.PrintWords Go.Proofs.YtmmbpbgcobmifaaGreatDoorW.PrintLast
theorem wf_u8Q {x : Int} (h : (Lit.int .u8 x).wf = true) : 0 ≤ x ∧ x ≤ 255 := by
  have m2 : IntKind.u8.max = 255 := rfl
  have m1 : IntKind.u8.min = 0 := rfl
  simp [Lit.wf, m1, m2] at h
  omega
theorem OutletWholes (x : S36) (l : List Int) (_hs : (Lit.int .i64 x.f0).wf = true ∧ (Lit.int .u64 x.f1).wf = true) (hl : l.length * 1 ≤ 140737488351232 ∧ ∀ y ∈ l, (Lit.int .u8 y).wf = true) : catchpitlaw14_OutletWholes.f x.f0 x.f1 l = some true :=
  if_pos (byteB_iff.2 fun x hx => wf_u8Q (hl.2 x hx))
end Go.Proofs.YtmmbpbgcobmifaaGreatDoor.Pure
end
section
namespace Go.Proofs.YtmmbpbgcobmifaaGreatDoorH
open Go.RowKit Go.ChangeShapes Go.WideShapes Go.ChangeAt Go.Proofs.YtmmbpbgcobmifaaGreatDoorW.PrintWords
def Light {H : Type} (P : Program) (t : TypeId) (d : DataW H) : Prop := ∀ x ∈ DataW.weights P t d, x ≤ reachBytes
structure Opens (P : Program) {α : Type} (d : Kd α) (t : TypeId) (G : α → Prop) : Prop where
  cells : P.cellsOf t = d.sz
  open_ : ∀ {H : Type} {enc : TypeId × Value → H} {W : World} {fuel : Nat} {cs : List Value} {x : DataW H × List MemPlace},
    DataW.trod enc P W 0 (fun _ => true) true fuel t cs = some x → Light P t x.1 → ∃ y, d.K W y cs ∧ G y
theorem Opens.int {P : Program} {t : TypeId} {k : IntKind} (hu : P.underlying t = some (.int k)) (hc : P.cellsOf t = 1) : Opens P (Kd.int k) t (fun n => (Lit.int k n).wf = true) := by
  refine ⟨hc, fun h _ => ?_⟩
  obtain ⟨n, e1, e2, wf⟩ := DataW.trod_int hu h
  exact ⟨n, e1, wf⟩
theorem Opens.bool {P : Program} {t : TypeId} (hu : P.underlying t = some .bool) (hc : P.cellsOf t = 1) : Opens P Kd.bool t (fun _ => True) := by
  refine ⟨hc, fun {_ _ _ fuel cs _} h _ => ?_⟩
  cases fuel with
  | zero => simp [DataW.trod] at h
  | succ m =>
    unfold DataW.trod at h
    rw [hu] at h
    match cs, h with
    | [.bool b], _ => exact ⟨b, rfl, trivial⟩
theorem Opens.string {P : Program} {t : TypeId} (hu : P.underlying t = some .string) (hc : P.cellsOf t = 1) : Opens P Kd.string t (fun s => s.size ≤ 140737488351232) := by
  refine ⟨hc, fun h hl => ?_⟩
  obtain ⟨s, e1, e2, _⟩ := DataW.trod_string hu h
  refine ⟨s, e1, ?_⟩
  subst e2
  have := hl s.data.toList.length (by simp [DataW.weights])
  rw [data_length] at this
  exact this
theorem weightsAll_mem {H : Type} (P : Program) (e : TypeId) : ∀ (l : List (DataW H)) (d : DataW H), d ∈ l → ∀ x ∈ DataW.weights P e d, x ∈ DataW.weightsAll P e l
  | [], d, h, _, _ => by cases h
  | a :: l, d, h, x, hx => by
    rw [DataW.weightsAll]
    rcases List.mem_cons.1 h with rfl | h
    · exact List.mem_append_left _ hx
    · exact List.mem_append_right _ (weightsAll_mem P e l d h x hx)
theorem list_of {α : Type} {p : Nat → α → Prop} : ∀ n : Nat, (∀ i, i < n → ∃ y, p i y) → ∃ l : List α, l.length = n ∧ ∀ i y, l[i]? = some y → p i y
  | 0, _ => ⟨[], rfl, fun i y h => by simp at h⟩
  | n + 1, h => by
    obtain ⟨l, hl, hp⟩ := list_of n (fun i hi => h i (by omega))
    obtain ⟨y, hy⟩ := h n (by omega)
    refine ⟨l ++ [y], by simp [hl], fun i z hz => ?_⟩
    rcases Nat.lt_or_ge i n with hi | hi
    · rw [List.getElem?_append_left (by omega)] at hz
      exact hp i z hz
    · rw [List.getElem?_append_right (by omega), hl] at hz
      rcases Nat.eq_zero_or_pos (i - n) with h0 | h0
      · rw [h0] at hz
        obtain rfl : i = n := by omega
        obtain rfl : y = z := by simpa using hz
        exact hy
      · rw [List.getElem?_eq_none (by simp; omega)] at hz
        cases hz
theorem add_add (a : Addr) (i j : Nat) : (a.add i).add j = a.add (i + j) := by
  unfold Addr.add
  by_cases h1 : i = 0
  · subst h1; simp
  · by_cases h2 : j = 0
    · subst h2; simp [h1]
    · simp [h1, h2, Nat.add_assoc]
theorem cells_at {W : World} {base : Nat} {a : Addr} {n : Nat} {cs : List Value} (h : W.cells? base a n = some cs) : cs.length = n ∧ ∀ (i : Nat) u, cs[i]? = some u → W.cell? (a.add i) = some u := by
  obtain ⟨_, hn, hc⟩ := World.cells?_some h
  refine ⟨hn, fun i u hu => ?_⟩
  have hi : i < n := by
    rcases Nat.lt_or_ge i n with hi | hi
    · exact hi
    · rw [List.getElem?_eq_none (by omega)] at hu; cases hu
  rw [hc i hi, hu]
theorem Opens.slice {P : Program} {α : Type} {d : Kd α} {t e : TypeId} {G : α → Prop} (h : Opens P d e G) (hu : P.underlying t = some (.slice e)) (hc : P.cellsOf t = 1) {B : Nat} (hB : P.bytesOf e = B) :
    Opens P (Kd.slice e d) t (fun l => l.length * B ≤ 140737488351232 ∧ ∀ y ∈ l, G y) := by
  refine ⟨hc, fun {H enc W fuel cs x} hx hl => ?_⟩
  rcases Deep.open_slice hu hx with ⟨rfl, rfl⟩ | ⟨a, len, cap, m, n, D, Pl, rfl, _, hle, hm, hmm, rfl, hel⟩
  · exact ⟨[], ⟨none, 0, rfl, Nat.le_refl _, rfl, by simp, fun h => by simp at h⟩, by simp, fun y hy => by cases hy⟩
  · simp only [if_true] at hmm
    subst hmm
    have hw : (len + (m - len)) * B ≤ 140737488351232 := by
      have := hl ((len + (m - len)) * B) (by
        unfold DataW.weights
        simp only [hu, hB]
        simp)
      exact this
    have hget : ∀ i, i < len → ∃ y, (∃ c, c.length = d.sz ∧ d.K W y c ∧ ∀ j u, c[j]? = some u → W.cell? (a.add (i * d.sz + j)) = some u) ∧ G y := by
      intro i hi
      obtain ⟨cs', h1, h2⟩ := hel i (by omega)
      obtain ⟨y, hy, hg⟩ := h.open_ h2 (fun x hx => hl x (by
        unfold DataW.weights
        simp only [hu]
        refine List.mem_cons_of_mem _ (List.mem_append_left _ (weightsAll_mem P e _ (D i) ?_ x hx))
        exact List.mem_map.2 ⟨i, List.mem_range.2 hi, rfl⟩))
      obtain ⟨hn, hcell⟩ := cells_at h1
      refine ⟨y, ⟨cs', by rw [hn, h.cells], hy, fun j u hj => ?_⟩, hg⟩
      have := hcell j u hj
      rw [add_add, h.cells] at this
      exact this
    obtain ⟨l, hll, hat⟩ := list_of len hget
    refine ⟨l, ⟨some a, m, by rw [hll], by omega, rfl, by rw [hll]; unfold maxLen at hm; omega, fun _ => ⟨a, rfl, fun j p hj => (hat j p hj).1⟩⟩, ?_, fun y hy => ?_⟩
    · rw [hll]
      exact Nat.le_trans (Nat.mul_le_mul_right _ (by omega)) hw
    · obtain ⟨i, hi, rfl⟩ := List.mem_iff_getElem.1 hy
      exact (hat i _ (List.getElem?_eq_getElem hi)).2
theorem weights_agg {H : Type} {P : Program} {t : TypeId} {fs : Array Field} (hu : P.underlying t = some (.struct fs)) (xs : List (DataW H)) : DataW.weights P t (.agg xs) = DataW.weightsEach P (fs.toList.map (·.type)) xs := by
  simp [DataW.weights, hu]
theorem light_of {H : Type} {P : Program} {ts : List TypeId} {ds : List (DataW H)} (h : (DataW.weightsEach P ts ds).all (· ≤ reachBytes) = true) {j : Nat} {t : TypeId} {d : DataW H} (ht : ts[j]? = some t) (hd : ds[j]? = some d) : Light P t d := fun x hx => by
  have := List.all_eq_true.1 h x (DataW.weights_mem_each ht hd x hx)
  simpa using this
theorem Opens.struct2 {P : Program} {α β : Type} {d0 : Kd α} {d1 : Kd β} {t : TypeId} {f0 f1 : Field} {G0 : α → Prop} {G1 : β → Prop} (h0 : Opens P d0 f0.type G0) (h1 : Opens P d1 f1.type G1) (hu : P.underlying t = some (.struct #[f0, f1]))
    (o0 : f0.offset = 0) (o1 : f1.offset = d0.sz) (hc : P.cellsOf t = d0.sz + d1.sz) : Opens P (Kd.pair d0 d1) t (fun x => G0 x.1 ∧ G1 x.2) := by
  refine ⟨hc, fun {H enc W fuel cs x} hx hl => ?_⟩
  obtain ⟨y0, y1, n, rfl, hn, e0, e1⟩ := trod_struct2 hu hx
  have hw : ∀ x, x ∈ DataW.weights P t (.agg [y0.1, y1.1]) → x ≤ reachBytes := hl
  rw [weights_agg hu] at hw
  obtain ⟨x0, k0, g0⟩ := h0.open_ e0 (fun x hx => hw x (DataW.weights_mem_each (j := 0) rfl rfl x hx))
  obtain ⟨x1, k1, g1⟩ := h1.open_ e1 (fun x hx => hw x (DataW.weights_mem_each (j := 1) rfl rfl x hx))
  refine ⟨(x0, x1), ⟨_, _, ?_, k0, k1⟩, g0, g1⟩
  rw [o0, o1, h0.cells, h1.cells, List.drop_zero]
  rw [hc] at hn
  have : (cs.drop d0.sz).take d1.sz = cs.drop d0.sz := List.take_of_length_le (by rw [List.length_drop]; omega)
  rw [this, List.take_append_drop]
theorem Opens.iso {P : Program} {α β : Type} {d : Kd α} {t : TypeId} {G : α → Prop} (h : Opens P d t G) (f : β → α) (g : α → β) (hfg : ∀ y, f (g y) = y) : Opens P (Kd.iso d f) t (fun x => G (f x)) := by
  refine ⟨h.cells, fun {H enc W fuel cs x} hx hl => ?_⟩
  obtain ⟨y, hk, hg⟩ := h.open_ hx hl
  exact ⟨g y, show d.K W (f (g y)) cs by rw [hfg]; exact hk, by rw [hfg]; exact hg⟩
end Go.Proofs.YtmmbpbgcobmifaaGreatDoorH
end
