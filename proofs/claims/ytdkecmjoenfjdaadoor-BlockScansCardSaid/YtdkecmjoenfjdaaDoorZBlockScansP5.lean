import Derived.Test.YtdkecmjoenfjdaaDoorZBlockScansP1
import Derived.Test.YtdkecmjoenfjdaaDoorZBlockScansP2
import Derived.Test.YtdkecmjoenfjdaaDoorZBlockScansP4
import Derived.Test.YtdkecmjoenfjdaaDoorZBlockScansP3
import Derived.Shelf.Strings.Builder1
import Derived.Laws.EntriesVeiled
section
namespace Go.Proofs.YtdkecmjoenfjdaaDoor.Pr
open Go.RowKit Go.Proofs.YtdkecmjoenfjdaaDoorH Go.Proofs.YtdkecmjoenfjdaaDoorW.PrintWords Go.Proofs.YtdkecmjoenfjdaaDoorW.PrintLast Go.Proofs.YtdkecmjoenfjdaaDoorW.PrintMore
attribute [local go_sem] max2_int min2_int max_two min_two max_three min_three max_four min_four   -- for this text's walks alone
set_option linter.unusedVariables false
set_option linter.unusedSimpArgs false
mutual
def catchpitref06_Scan.l0 : Nat → ByteArray → List (S24) → Int → Option ((List (S24)) × Int × Int)
  | 0, _, _, _ => none
  | k + 1, x0, x3, x4 => if 0 ≤ x4 then (if x4 ≤ (x0.size : Int) then (if ((x0.extract (x4 : Int).toNat x0.size).size : Int) = 0 then (catchpitref06_Scan.j1 k x0 x3 x4 (x0.extract (x4 : Int).toNat x0.size) true) else (catchpitref06_Scan.j1 k x0 x3 x4 (x0.extract (x4 : Int).toNat x0.size) ((x0.extract (x4 : Int).toNat x0.size).toList == ([13] : List UInt8)))) else (none)) else (none)
def catchpitref06_Scan.j1 : Nat → ByteArray → List (S24) → Int → ByteArray → Bool → Option ((List (S24)) × Int × Int)
  | 0, _, _, _, _, _ => none
  | k + 1, x0, x3, x4, x5, x19 => if x19 = true then (some (([] : List (S24)), (x0.size : Int), 4)) else (if 0 < (x5.size : Int) then (if (bt x5 0) = 13 then (if 1 < (x5.size : Int) then (if (bt x5 1) = 10 then (some (x3, wrap64 (x4 + 2), 0)) else (some (([] : List (S24)), wrap64 (x4 + 1), 2))) else (none)) else ((catchpitref06_Wrong.f k x5).bind fun t306 => (if t306 ≥ 0 then (some (([] : List (S24)), wrap64 (x4 + t306), 2)) else ((catchpitref06_End.f k x5).bind fun t307 => (if t307 < 0 then (some (([] : List (S24)), (x0.size : Int), 4)) else (if 0 ≤ (wrap64 (t307 - 2)) then (if (wrap64 (t307 - 2)) ≤ (x5.size : Int) then ((catchpitref05_Parse.f k (x5.extract 0 ((wrap64 (t307 - 2)) : Int).toNat)).bind fun bt308 => (if x3.length < 4398046511104 then (catchpitref06_Scan.l0 k x0 (x3 ++ [(⟨bt308.1, bt308.2.1⟩ : S24)]) (wrap64 (x4 + t307))) else (none))) else (none)) else (none))))))) else (none))
end
def catchpitref06_Scan.f (k : Nat) (a0 : ByteArray) : Option ((List (S24)) × Int × Int) := catchpitref06_Scan.l0 k a0 ([] : List (S24)) 0
theorem catchpitref06_Scan.mono_l : ∀ k, (∀ y0 y1 y2, LeO (catchpitref06_Scan.l0 k y0 y1 y2) (catchpitref06_Scan.l0 (k + 1) y0 y1 y2)) ∧ (∀ y0 y1 y2 y3 y4, LeO (catchpitref06_Scan.j1 k y0 y1 y2 y3 y4) (catchpitref06_Scan.j1 (k + 1) y0 y1 y2 y3 y4))
  | 0 => ⟨fun _ _ _ r h => by simp [catchpitref06_Scan.l0] at h, fun _ _ _ _ _ r h => by simp [catchpitref06_Scan.j1] at h⟩
  | k + 1 => by
    obtain ⟨ih0, ih1⟩ := catchpitref06_Scan.mono_l k
    refine ⟨?_, ?_⟩
    · intro y0 y1 y2
      unfold catchpitref06_Scan.l0
      repeat' first
      | (with_reducible exact ih0 _ _ _)
      | (with_reducible exact ih1 _ _ _ _ _)
      | (with_reducible exact catchpitref05_Parse.mono _ _)
      | (with_reducible exact catchpitref06_End.mono _ _)
      | (with_reducible exact catchpitref06_Wrong.mono _ _)
      | (with_reducible exact LeO.refl _)
      | (with_reducible exact LeO.none _)
      | (with_reducible refine LeO.ite ?_ ?_)
      | (with_reducible refine LeO.bind ?_ (fun _ => ?_))
      | exact ih0 _ _ _
      | exact ih1 _ _ _ _ _
      | exact catchpitref05_Parse.mono _ _
      | exact catchpitref06_End.mono _ _
      | exact catchpitref06_Wrong.mono _ _
      | exact LeO.none _
      | refine LeO.ite ?_ ?_
      | refine LeO.bind ?_ (fun _ => ?_)
    · intro y0 y1 y2 y3 y4
      unfold catchpitref06_Scan.j1
      repeat' first
      | (with_reducible exact ih0 _ _ _)
      | (with_reducible exact ih1 _ _ _ _ _)
      | (with_reducible exact catchpitref05_Parse.mono _ _)
      | (with_reducible exact catchpitref06_End.mono _ _)
      | (with_reducible exact catchpitref06_Wrong.mono _ _)
      | (with_reducible exact LeO.refl _)
      | (with_reducible exact LeO.none _)
      | (with_reducible refine LeO.ite ?_ ?_)
      | (with_reducible refine LeO.bind ?_ (fun _ => ?_))
      | exact ih0 _ _ _
      | exact ih1 _ _ _ _ _
      | exact catchpitref05_Parse.mono _ _
      | exact catchpitref06_End.mono _ _
      | exact catchpitref06_Wrong.mono _ _
      | exact LeO.none _
      | refine LeO.ite ?_ ?_
      | refine LeO.bind ?_ (fun _ => ?_)
theorem catchpitref06_Scan.mono : ∀ a0 k, LeO (catchpitref06_Scan.f k a0) (catchpitref06_Scan.f (k + 1) a0) := by
  intro a0 k
  obtain ⟨ih0, ih1⟩ := catchpitref06_Scan.mono_l k
  unfold catchpitref06_Scan.f
  repeat' first
      | (with_reducible exact ih0 _ _ _)
      | (with_reducible exact ih1 _ _ _ _ _)
      | (with_reducible exact catchpitref05_Parse.mono _ _)
      | (with_reducible exact catchpitref06_End.mono _ _)
      | (with_reducible exact catchpitref06_Wrong.mono _ _)
      | (with_reducible exact LeO.refl _)
      | (with_reducible exact LeO.none _)
      | (with_reducible refine LeO.ite ?_ ?_)
      | (with_reducible refine LeO.bind ?_ (fun _ => ?_))
      | exact ih0 _ _ _
      | exact ih1 _ _ _ _ _
      | exact catchpitref05_Parse.mono _ _
      | exact catchpitref06_End.mono _ _
      | exact catchpitref06_Wrong.mono _ _
      | exact LeO.none _
      | refine LeO.ite ?_ ?_
      | refine LeO.bind ?_ (fun _ => ?_)
set_option maxHeartbeats 8000000 in
set_option maxRecDepth 100000 in
theorem catchpitref06_Scan.calls (k : Nat) (a0 : ByteArray) (r1 : List (S24)) (r2 : Int) (r3 : Int) (w : World) (hG : TabOk w) (h : catchpitref06_Scan.f k a0 = some (r1, r2, r3)) :
    Calls Tryd.prog 32 #[.string a0] w fun e w' => ∃ v0_ : Value, e = .returned (.agg #[v0_, .int .i64 r2, .int .i64 r3]) ∧ Kd.R k24 24 w' w.heap.size (fun _ => True) v0_ r1 ∧ Below w.heap.size w w' := by
  have hu50 := Tryd.underlying50
  have hu24 := Tryd.underlying24
  have HB := Aside0.mk (Below.refl w.heap.size w)
  have H : (catchpitref06_Scan.l0 k a0 ([] : List (S24)) 0) = some (r1, r2, r3) := h
  clear h
  have H' := Aside0.mk H
  clear H
  go_enter Tryd.func32, Tryd.ntmps32
  go_wp2_with (first | ((with_reducible refine gate_dst (N := 2) rfl ?_); refine box_event ?hg (N := 2) ?hd (cs := #[.slice none 0 0, .int .i64 0, .int .i64 0]) (t := 50) ?hr ?_; (case hd => rfl); (case hg => rfl); (case hr => first | (go_simp; done) | (go_simp; rfl)); intro gb305 hg w2 hbox hb; have n0_ := Aside0.mk (below_step (by repeat (first | (with_reducible first | exact HB.out | apply below_alloc | apply pw_below_drewN | apply below_drew1) | exact HB.out)) hb); have n1_ := Aside0.mk (hbox); have n2_ := Aside0.mk ((by rw [hg]; exact (below_size (by repeat (first | (with_reducible first | exact HB.out | apply below_alloc | apply pw_below_drewN | apply below_drew1) | exact HB.out))) : w.heap.size ≤ gb305)); have n3_ := Aside0.mk ((by rw [hg]; exact (below_size (by repeat (first | (with_reducible first | exact HB.out | apply below_alloc | apply pw_below_drewN | apply below_drew1) | exact HB.out))) : w.heap.size ≤ gb305)); clear HB; have HB := n0_; have BK305 := n1_; have GW305 := n2_; have GE305 := n3_; clear n0_ n1_ n2_ n3_; clear hb hbox hg))
  go_loopg [3, 4] k (fun kq v3 v4 w' => ∃ (x3_1 : List (S24)) (x4_1 : Int) (x306001_1 : Int) (x306002_1 : Int), v4 = .int .i64 x4_1 ∧ Aside0 (catchpitref06_Scan.l0 kq a0 x3_1 x4_1 = some (r1, r2, r3)) ∧ Aside0 (kq ≤ k) ∧ Aside0 (Kd.R k24 24 w' w.heap.size (fun _ => True) v3 x3_1) ∧ Aside0 (w'.heap[gb305]? = some (.cells #[(.slice none 0 0), .int .i64 x306001_1, .int .i64 x306002_1] 50 (0, 0))) ∧ Aside0 (Below w.heap.size w w'))
  case atStart => exact ⟨(([] : List (S24))), (0), (0), (0), (by first | rfl | (simp; done) | (simp [*]; done)), H', ⟨Nat.le_refl _⟩, ⟨by first | exact Kd.R_nil _ _ _ _ _ | exact Kd.N_nil _ _ _ _ _ | exact Kd.V_nil _ _ _ _ _ | exact Kd.Q_nil _ _ _ _ _ | exact Kd.S_nil _ _ _ _ _⟩, ⟨by (with_reducible repeat (first | refine blk_drewN ?_ _ | refine blk_drew ?_ | refine blk_alloc ?_ _)); exact BK305.out⟩, ⟨by repeat (first | (with_reducible first | exact HB.out | apply below_alloc | apply pw_below_drewN | apply below_drew1 | refine below_set ?_ GE305.out) | exact HB.out)⟩⟩
  case round =>
    clear H'
    try clear p2
    obtain ⟨x3_1, x4_1, x306001_1, x306002_1, rfl, HA, HK1, HO_3, BK305, HB⟩ := hrel
    cases gk with
    | zero => exact absurd HA.out (by simp [catchpitref06_Scan.l0])
    | succ k1 =>
      have H := HA.out
      clear HA
      simp only [catchpitref06_Scan.l0] at H
      by_cases c3 : 0 ≤ x4_1
      · rw [if_pos c3] at H
        have c3b0 := eq_true c3
        have c3b1 : decide (0 ≤ x4_1) = true := decide_eq_true c3
        clear c3
        by_cases c4 : x4_1 ≤ (a0.size : Int)
        · rw [if_pos c4] at H
          have c4b0 := eq_true c4
          have c4b1 : decide (x4_1 ≤ (a0.size : Int)) = true := decide_eq_true c4
          clear c4
          have HC5 := Aside0.mk H
          clear H
          go_upto_region 4 with (fail)
          go_cut [19] (fun v19 wc => ∃ (kq : Nat) (x19_4 : Bool), v19 = .bool x19_4 ∧ Aside0 (catchpitref06_Scan.j1 kq a0 x3_1 x4_1 (a0.extract (x4_1 : Int).toNat a0.size) x19_4 = some (r1, r2, r3)) ∧ Aside0 (kq ≤ k1) ∧ Aside0 (Kd.R k24 24 wc w.heap.size (fun _ => True) u3 x3_1) ∧ Aside0 (wc.heap[gb305]? = some (.cells #[(.slice none 0 0), .int .i64 x306001_1, .int .i64 x306002_1] 50 (0, 0))) ∧ Aside0 (Below w.heap.size w wc))
          case first =>
            have H := HC5.out
            clear HC5
            by_cases c6 : ((a0.extract (x4_1 : Int).toNat a0.size).size : Int) = 0
            · rw [if_pos c6] at H
              have c6b0 : (((a0.extract (x4_1 : Int).toNat a0.size).size : Int) == 0) = true := beq_iff_eq.mpr c6
              try simp only [ByteArray.size_append, ByteArray.size_extract, Nat.min_self] at c6b0
              have c6b1 : (((a0.extract (x4_1 : Int).toNat a0.size).size : Int) != 0) = false := bne_eq_false_iff_eq.mpr c6
              try simp only [ByteArray.size_append, ByteArray.size_extract, Nat.min_self] at c6b1
              clear c6
              (first | rw [c6b0] | (simp only [i64_w, i32_w]; rw [c6b0]) | skip)
              have H' := Aside0.mk H
              clear H
              go_wp2
              go_meet
              case rel => exact ⟨_, (true), (by first | rfl | (simp; done) | (simp [*]; done)), H', ⟨by have := HK1.out; first | omega | exact Nat.le_refl _⟩, ⟨by (with_reducible repeat (first | apply Kd.R_alloc | apply Kd.R_drewN | apply Kd.R_drew)); exact HO_3.out⟩, ⟨by (with_reducible repeat (first | refine blk_drewN ?_ _ | refine blk_drew ?_ | refine blk_alloc ?_ _)); exact BK305.out⟩, ⟨by repeat (first | (with_reducible first | exact HB.out | apply below_alloc | apply pw_below_drewN | apply below_drew1 | refine below_set ?_ GE305.out) | exact HB.out)⟩⟩
            · rw [if_neg c6] at H
              have c6b0 : (((a0.extract (x4_1 : Int).toNat a0.size).size : Int) == 0) = false := beq_eq_false_iff_ne.mpr c6
              try simp only [ByteArray.size_append, ByteArray.size_extract, Nat.min_self] at c6b0
              have c6b1 : (((a0.extract (x4_1 : Int).toNat a0.size).size : Int) != 0) = true := bne_iff_ne.mpr c6
              try simp only [ByteArray.size_append, ByteArray.size_extract, Nat.min_self] at c6b1
              (first | rw [c6b0] | (simp only [i64_w, i32_w]; rw [c6b0]) | skip)
              have H' := Aside0.mk H
              clear H
              go_wp2
              go_meet
              case rel => exact ⟨_, (((a0.extract (x4_1 : Int).toNat a0.size).toList == ([13] : List UInt8))), (by first | rfl | (simp; done) | (simp [*]; done)), H', ⟨by have := HK1.out; first | omega | exact Nat.le_refl _⟩, ⟨by (with_reducible repeat (first | apply Kd.R_alloc | apply Kd.R_drewN | apply Kd.R_drew)); exact HO_3.out⟩, ⟨by (with_reducible repeat (first | refine blk_drewN ?_ _ | refine blk_drew ?_ | refine blk_alloc ?_ _)); exact BK305.out⟩, ⟨by repeat (first | (with_reducible first | exact HB.out | apply below_alloc | apply pw_below_drewN | apply below_drew1 | refine below_set ?_ GE305.out) | exact HB.out)⟩⟩
          case rest =>
            clear HC5
            try clear p2
            try clear c3
            try clear c3b0
            try clear c3b1
            try clear c4
            try clear c4b0
            try clear c4b1
            try clear c6
            try clear c6b0
            try clear c6b1
            try clear p2
            obtain ⟨kq, x19_4, rfl, HA, HJ4, HO_3, BK305, HB⟩ := hcut
            generalize a0.extract (x4_1 : Int).toNat a0.size = tx_ at *
            cases kq with
            | zero => exact absurd HA.out (by simp [catchpitref06_Scan.j1])
            | succ kj4 =>
              have H := HA.out
              clear HA
              simp only [catchpitref06_Scan.j1] at H
              by_cases c7 : x19_4 = true
              · subst c7
                have H1 : (some (([] : List (S24)), (a0.size : Int), 4)) = some (r1, r2, r3) := by rw [if_pos rfl] at H; exact H
                clear H
                have H := H1
                clear H1
                simp only [Option.some.injEq, Prod.mk.injEq] at H
                obtain ⟨rfl, rfl, rfl⟩ := H
                have hcz8_0 : wc.cell? ⟨gb305, 0, none⟩ = some (.slice none 0 0) := (blk_cell BK305.out 0).trans rfl
                have hcz8_1 : wc.cell? ⟨gb305, 1, none⟩ = some (.int .i64 x306001_1) := (blk_cell BK305.out 1).trans rfl
                have hcz8_2 : wc.cell? ⟨gb305, 2, none⟩ = some (.int .i64 x306002_1) := (blk_cell BK305.out 2).trans rfl
                have hfz8_0 := blk_frozen BK305.out 0
                have hfz8_1 := blk_frozen BK305.out 1
                have hfz8_2 := blk_frozen BK305.out 2
                go_wp2
                refine bodyPost_ret (results_cell_row rfl _ _ gb305 50 #[.slice none 0 0, .int .i64 (a0.size : Int), .int .i64 4] (0, 0) _ rfl (by (with_reducible repeat (first | refine blk_drewN ?_ _ | refine blk_drew ?_ | refine blk_alloc ?_ _)); refine blk_put (cs := #[.slice none 0 0, .int .i64 (a0.size : Int), .int .i64 x306002_1]) ?_ 2 _ rfl; (with_reducible repeat (first | refine blk_drewN ?_ _ | refine blk_drew ?_ | refine blk_alloc ?_ _)); refine blk_put (cs := #[.slice none 0 0, .int .i64 x306001_1, .int .i64 x306002_1]) ?_ 1 _ rfl; (with_reducible repeat (first | refine blk_drewN ?_ _ | refine blk_drew ?_ | refine blk_alloc ?_ _)); refine blk_put (cs := #[.slice none 0 0, .int .i64 x306001_1, .int .i64 x306002_1]) ?_ 0 _ rfl; (with_reducible repeat (first | refine blk_drewN ?_ _ | refine blk_drew ?_ | refine blk_alloc ?_ _)); exact BK305.out) Tryd.underlying50 rfl (by kernel_rfl)) rfl ?_
                exact ⟨_, by first | rfl | (simp [errW_none, errW_some] <;> rfl) | (simp [*, errW_none, errW_some] <;> rfl), by first | exact Kd.R_nil _ _ _ _ _ | exact Kd.N_nil _ _ _ _ _ | exact Kd.V_nil _ _ _ _ _ | exact Kd.Q_nil _ _ _ _ _ | exact Kd.S_nil _ _ _ _ _, by repeat (first | (with_reducible first | exact HB.out | apply below_alloc | apply pw_below_drewN | apply below_drew1 | refine below_set ?_ GE305.out) | exact HB.out)⟩
              · replace c7 := Bool.eq_false_iff.mpr c7
                subst c7
                have H1 : (if 0 < (tx_.size : Int) then (if (bt tx_ 0) = 13 then (if 1 < (tx_.size : Int) then (if (bt tx_ 1) = 10 then (some (x3_1, wrap64 (x4_1 + 2), 0)) else (some (([] : List (S24)), wrap64 (x4_1 + 1), 2))) else (none)) else ((catchpitref06_Wrong.f kj4 tx_).bind fun t306 => (if t306 ≥ 0 then (some (([] : List (S24)), wrap64 (x4_1 + t306), 2)) else ((catchpitref06_End.f kj4 tx_).bind fun t307 => (if t307 < 0 then (some (([] : List (S24)), (a0.size : Int), 4)) else (if 0 ≤ (wrap64 (t307 - 2)) then (if (wrap64 (t307 - 2)) ≤ (tx_.size : Int) then ((catchpitref05_Parse.f kj4 (tx_.extract 0 ((wrap64 (t307 - 2)) : Int).toNat)).bind fun bt308 => (if x3_1.length < 4398046511104 then (catchpitref06_Scan.l0 kj4 a0 (x3_1 ++ [(⟨bt308.1, bt308.2.1⟩ : S24)]) (wrap64 (x4_1 + t307))) else (none))) else (none)) else (none))))))) else (none)) = some (r1, r2, r3) := by rw [if_neg (show ¬ (false = true) by decide)] at H; exact H
                clear H
                have H := H1
                clear H1
                by_cases c9 : 0 < (tx_.size : Int)
                · rw [if_pos c9] at H
                  have c9b0 : decide (0 < (tx_.size : Int)) = true := decide_eq_true c9
                  try simp only [ByteArray.size_append, ByteArray.size_extract, Nat.min_self] at c9b0
                  have c9b1 : decide (0 < tx_.size) = true := decide_eq_true (by omega)
                  try simp only [ByteArray.size_append, ByteArray.size_extract, Nat.min_self] at c9b1
                  clear c9
                  by_cases c11 : (bt tx_ 0) = 13
                  · rw [if_pos c11] at H
                    have c11b0 : ((bt tx_ 0) == 13) = true := beq_iff_eq.mpr c11
                    try simp only [ByteArray.size_append, ByteArray.size_extract, Nat.min_self] at c11b0
                    have c11b1 : ((bt tx_ 0) != 13) = false := bne_eq_false_iff_eq.mpr c11
                    try simp only [ByteArray.size_append, ByteArray.size_extract, Nat.min_self] at c11b1
                    clear c11
                    by_cases c12 : 1 < (tx_.size : Int)
                    · rw [if_pos c12] at H
                      have c12b0 : decide (1 < (tx_.size : Int)) = true := decide_eq_true c12
                      try simp only [ByteArray.size_append, ByteArray.size_extract, Nat.min_self] at c12b0
                      have c12b1 : decide (1 < tx_.size) = true := decide_eq_true (by omega)
                      try simp only [ByteArray.size_append, ByteArray.size_extract, Nat.min_self] at c12b1
                      clear c12
                      by_cases c14 : (bt tx_ 1) = 10
                      · rw [if_pos c14] at H
                        have c14b0 : ((bt tx_ 1) == 10) = true := beq_iff_eq.mpr c14
                        try simp only [ByteArray.size_append, ByteArray.size_extract, Nat.min_self] at c14b0
                        have c14b1 : ((bt tx_ 1) != 10) = false := bne_eq_false_iff_eq.mpr c14
                        try simp only [ByteArray.size_append, ByteArray.size_extract, Nat.min_self] at c14b1
                        clear c14
                        simp only [Option.some.injEq, Prod.mk.injEq] at H
                        obtain ⟨rfl, rfl, rfl⟩ := H
                        have p10 : 0 ≤ (0 : Int) := (by omega)
                        have q10 : 0 < tx_.size := (by have : (0 : Int) < (tx_.size : Int) := of_decide_eq_true (by first | (with_reducible assumption) | assumption); omega)
                        have hx10 : ∀ h : 0 < tx_.size, ((tx_[0]'h).toNat : Int) = bt tx_ 0 := bt_at tx_ 0
                        clear p10
                        have qi10 : (0 < (tx_.size : Int)) = True := eq_true (of_decide_eq_true (by first | (with_reducible assumption) | assumption))
                        replace q10 := eq_true q10
                        have p13 : 0 ≤ (1 : Int) := (by omega)
                        have q13 : 1 < tx_.size := (by have : (1 : Int) < (tx_.size : Int) := of_decide_eq_true (by first | (with_reducible assumption) | assumption); omega)
                        have hx13 : ∀ h : 1 < tx_.size, ((tx_[1]'h).toNat : Int) = bt tx_ 1 := bt_at tx_ 1
                        clear p13
                        have qi13 : (1 < (tx_.size : Int)) = True := eq_true (of_decide_eq_true (by first | (with_reducible assumption) | assumption))
                        replace q13 := eq_true q13
                        obtain ⟨Ao15, co15, eo15⟩ := Kd.R_slice HO_3.out
                        subst eo15
                        have hcz16_0 : wc.cell? ⟨gb305, 0, none⟩ = some (.slice none 0 0) := (blk_cell BK305.out 0).trans rfl
                        have hcz16_1 : wc.cell? ⟨gb305, 1, none⟩ = some (.int .i64 x306001_1) := (blk_cell BK305.out 1).trans rfl
                        have hcz16_2 : wc.cell? ⟨gb305, 2, none⟩ = some (.int .i64 x306002_1) := (blk_cell BK305.out 2).trans rfl
                        have hfz16_0 := blk_frozen BK305.out 0
                        have hfz16_1 := blk_frozen BK305.out 1
                        have hfz16_2 := blk_frozen BK305.out 2
                        go_wp2
                        refine bodyPost_ret (results_cell_row rfl _ _ gb305 50 #[.slice Ao15 x3_1.length co15, .int .i64 (wrap64 (x4_1 + 2)), .int .i64 0] (0, 0) _ rfl (by (with_reducible repeat (first | refine blk_drewN ?_ _ | refine blk_drew ?_ | refine blk_alloc ?_ _)); refine blk_put (cs := #[.slice Ao15 x3_1.length co15, .int .i64 (wrap64 (x4_1 + 2)), .int .i64 x306002_1]) ?_ 2 _ rfl; (with_reducible repeat (first | refine blk_drewN ?_ _ | refine blk_drew ?_ | refine blk_alloc ?_ _)); refine blk_put (cs := #[.slice Ao15 x3_1.length co15, .int .i64 x306001_1, .int .i64 x306002_1]) ?_ 1 _ rfl; (with_reducible repeat (first | refine blk_drewN ?_ _ | refine blk_drew ?_ | refine blk_alloc ?_ _)); refine blk_put (cs := #[.slice none 0 0, .int .i64 x306001_1, .int .i64 x306002_1]) ?_ 0 _ rfl; (with_reducible repeat (first | refine blk_drewN ?_ _ | refine blk_drew ?_ | refine blk_alloc ?_ _)); exact BK305.out) Tryd.underlying50 rfl (by kernel_rfl)) rfl ?_
                        exact ⟨_, by first | rfl | (simp [errW_none, errW_some] <;> rfl) | (simp [*, errW_none, errW_some] <;> rfl), by (with_reducible repeat (first | apply Kd.R_alloc | apply Kd.R_drewN | apply Kd.R_drew)); exact Kd.R_mono (Kd.R_far (p := ⟨gb305, 2, none⟩) (Kd.R_far (p := ⟨gb305, 1, none⟩) (Kd.R_far (p := ⟨gb305, 0, none⟩) (Kd.R_types HO_3.out BK305.out (by decide)) (fun _ hk => hk.2) (.slice Ao15 x3_1.length co15)) (fun _ hk => hk.2) (.int .i64 (wrap64 (x4_1 + 2)))) (fun _ hk => hk.2) (.int .i64 0)) (fun _ hk => trivial), by repeat (first | (with_reducible first | exact HB.out | apply below_alloc | apply pw_below_drewN | apply below_drew1 | refine below_set ?_ GE305.out) | exact HB.out)⟩
                      · rw [if_neg c14] at H
                        have c14b0 : ((bt tx_ 1) == 10) = false := beq_eq_false_iff_ne.mpr c14
                        try simp only [ByteArray.size_append, ByteArray.size_extract, Nat.min_self] at c14b0
                        have c14b1 : ((bt tx_ 1) != 10) = true := bne_iff_ne.mpr c14
                        try simp only [ByteArray.size_append, ByteArray.size_extract, Nat.min_self] at c14b1
                        simp only [Option.some.injEq, Prod.mk.injEq] at H
                        obtain ⟨rfl, rfl, rfl⟩ := H
                        have p10 : 0 ≤ (0 : Int) := (by omega)
                        have q10 : 0 < tx_.size := (by have : (0 : Int) < (tx_.size : Int) := of_decide_eq_true (by first | (with_reducible assumption) | assumption); omega)
                        have hx10 : ∀ h : 0 < tx_.size, ((tx_[0]'h).toNat : Int) = bt tx_ 0 := bt_at tx_ 0
                        clear p10
                        have qi10 : (0 < (tx_.size : Int)) = True := eq_true (of_decide_eq_true (by first | (with_reducible assumption) | assumption))
                        replace q10 := eq_true q10
                        have p13 : 0 ≤ (1 : Int) := (by omega)
                        have q13 : 1 < tx_.size := (by have : (1 : Int) < (tx_.size : Int) := of_decide_eq_true (by first | (with_reducible assumption) | assumption); omega)
                        have hx13 : ∀ h : 1 < tx_.size, ((tx_[1]'h).toNat : Int) = bt tx_ 1 := bt_at tx_ 1
                        clear p13
                        have qi13 : (1 < (tx_.size : Int)) = True := eq_true (of_decide_eq_true (by first | (with_reducible assumption) | assumption))
                        replace q13 := eq_true q13
                        have hcz17_0 : wc.cell? ⟨gb305, 0, none⟩ = some (.slice none 0 0) := (blk_cell BK305.out 0).trans rfl
                        have hcz17_1 : wc.cell? ⟨gb305, 1, none⟩ = some (.int .i64 x306001_1) := (blk_cell BK305.out 1).trans rfl
                        have hcz17_2 : wc.cell? ⟨gb305, 2, none⟩ = some (.int .i64 x306002_1) := (blk_cell BK305.out 2).trans rfl
                        have hfz17_0 := blk_frozen BK305.out 0
                        have hfz17_1 := blk_frozen BK305.out 1
                        have hfz17_2 := blk_frozen BK305.out 2
                        go_wp2
                        refine bodyPost_ret (results_cell_row rfl _ _ gb305 50 #[.slice none 0 0, .int .i64 (wrap64 (x4_1 + 1)), .int .i64 2] (0, 0) _ rfl (by (with_reducible repeat (first | refine blk_drewN ?_ _ | refine blk_drew ?_ | refine blk_alloc ?_ _)); refine blk_put (cs := #[.slice none 0 0, .int .i64 (wrap64 (x4_1 + 1)), .int .i64 x306002_1]) ?_ 2 _ rfl; (with_reducible repeat (first | refine blk_drewN ?_ _ | refine blk_drew ?_ | refine blk_alloc ?_ _)); refine blk_put (cs := #[.slice none 0 0, .int .i64 x306001_1, .int .i64 x306002_1]) ?_ 1 _ rfl; (with_reducible repeat (first | refine blk_drewN ?_ _ | refine blk_drew ?_ | refine blk_alloc ?_ _)); refine blk_put (cs := #[.slice none 0 0, .int .i64 x306001_1, .int .i64 x306002_1]) ?_ 0 _ rfl; (with_reducible repeat (first | refine blk_drewN ?_ _ | refine blk_drew ?_ | refine blk_alloc ?_ _)); exact BK305.out) Tryd.underlying50 rfl (by kernel_rfl)) rfl ?_
                        exact ⟨_, by first | rfl | (simp [errW_none, errW_some] <;> rfl) | (simp [*, errW_none, errW_some] <;> rfl), by first | exact Kd.R_nil _ _ _ _ _ | exact Kd.N_nil _ _ _ _ _ | exact Kd.V_nil _ _ _ _ _ | exact Kd.Q_nil _ _ _ _ _ | exact Kd.S_nil _ _ _ _ _, by repeat (first | (with_reducible first | exact HB.out | apply below_alloc | apply pw_below_drewN | apply below_drew1 | refine below_set ?_ GE305.out) | exact HB.out)⟩
                    · rw [if_neg c12] at H
                      exact absurd H (by simp)
                  · rw [if_neg c11] at H
                    have c11b0 : ((bt tx_ 0) == 13) = false := beq_eq_false_iff_ne.mpr c11
                    try simp only [ByteArray.size_append, ByteArray.size_extract, Nat.min_self] at c11b0
                    have c11b1 : ((bt tx_ 0) != 13) = true := bne_iff_ne.mpr c11
                    try simp only [ByteArray.size_append, ByteArray.size_extract, Nat.min_self] at c11b1
                    replace H := Option.bind_eq_some_iff.mp H
                    obtain ⟨t306, A180, H⟩ := H
                    replace H : (if t306 ≥ 0 then (some (([] : List (S24)), wrap64 (x4_1 + t306), 2)) else ((catchpitref06_End.f kj4 tx_).bind fun t307 => (if t307 < 0 then (some (([] : List (S24)), (a0.size : Int), 4)) else (if 0 ≤ (wrap64 (t307 - 2)) then (if (wrap64 (t307 - 2)) ≤ (tx_.size : Int) then ((catchpitref05_Parse.f kj4 (tx_.extract 0 ((wrap64 (t307 - 2)) : Int).toNat)).bind fun bt308 => (if x3_1.length < 4398046511104 then (catchpitref06_Scan.l0 kj4 a0 (x3_1 ++ [(⟨bt308.1, bt308.2.1⟩ : S24)]) (wrap64 (x4_1 + t307))) else (none))) else (none)) else (none))))) = some (r1, r2, r3) := H
                    have A18 := Aside0.mk A180
                    clear A180
                    by_cases c19 : t306 ≥ 0
                    · rw [if_pos c19] at H
                      have c19b0 : decide (0 ≤ t306) = true := decide_eq_true c19
                      clear c19
                      simp only [Option.some.injEq, Prod.mk.injEq] at H
                      obtain ⟨rfl, rfl, rfl⟩ := H
                      have p10 : 0 ≤ (0 : Int) := (by omega)
                      have q10 : 0 < tx_.size := (by have : (0 : Int) < (tx_.size : Int) := of_decide_eq_true (by first | (with_reducible assumption) | assumption); omega)
                      have hx10 : ∀ h : 0 < tx_.size, ((tx_[0]'h).toNat : Int) = bt tx_ 0 := bt_at tx_ 0
                      clear p10
                      have qi10 : (0 < (tx_.size : Int)) = True := eq_true (of_decide_eq_true (by first | (with_reducible assumption) | assumption))
                      replace q10 := eq_true q10
                      go_wp2_with (first | ((with_reducible refine gate_callee (f := 58) rfl ?_); refine goesL_ (some 37) rfl rfl Tryd.func58 (by kernel_rfl) rfl #[.string tx_] rfl (by (try simp only [List.map_toArray, List.map_cons, List.map_nil]); first | done | rfl | (simp only [List.length_drop, List.length_take]; rfl)) ?_; (with_reducible refine (catchpitref06_Wrong.calls kj4 tx_ t306 _ ?side1 A18.out).mono ?_); (case side1 => first | exact hG | exact TabOk.drewN hG _ | exact TabOk.drewN (TabOk.drewN hG _) _ | exact TabOk.below hG (by repeat (first | (with_reducible first | exact HB.out | apply below_alloc | apply pw_below_drewN | apply below_drew1 | refine below_set ?_ GE305.out) | exact HB.out))); rintro e w' ⟨rfl, ⟨nd, rfl⟩⟩; refine ⟨_, rfl, ?_⟩; (try (rw [drewN_self wc]; generalize hq_ : World.drewN wc _ = wc; have n0_ : Aside0 (Kd.R k24 24 wc w.heap.size (fun _ => True) u3 x3_1) := ⟨by rw [← hq_]; exact (by (with_reducible repeat (first | apply Kd.R_alloc | apply Kd.R_drewN | apply Kd.R_drew)); exact HO_3.out)⟩; have n1_ : Aside0 (wc.heap[gb305]? = some (.cells #[.slice none 0 0, .int .i64 x306001_1, .int .i64 x306002_1] 50 (0, 0))) := ⟨by rw [← hq_]; exact (by (with_reducible repeat (first | refine blk_drewN ?_ _ | refine blk_drew ?_ | refine blk_alloc ?_ _)); exact BK305.out)⟩; have n2_ : Aside0 (Below w.heap.size w wc) := ⟨by rw [← hq_]; exact (by repeat (first | (with_reducible first | exact HB.out | apply below_alloc | apply pw_below_drewN | apply below_drew1 | refine below_set ?_ GE305.out) | exact HB.out))⟩; clear HO_3 BK305 HB hq_; have HO_3 := n0_; have BK305 := n1_; have HB := n2_; clear n0_ n1_ n2_)); have hcz20_0 : wc.cell? ⟨gb305, 0, none⟩ = some (.slice none 0 0) := (blk_cell BK305.out 0).trans rfl; have hcz20_1 : wc.cell? ⟨gb305, 1, none⟩ = some (.int .i64 x306001_1) := (blk_cell BK305.out 1).trans rfl; have hcz20_2 : wc.cell? ⟨gb305, 2, none⟩ = some (.int .i64 x306002_1) := (blk_cell BK305.out 2).trans rfl; have hfz20_0 := blk_frozen BK305.out 0; have hfz20_1 := blk_frozen BK305.out 1; have hfz20_2 := blk_frozen BK305.out 2))
                      refine bodyPost_ret (results_cell_row rfl _ _ gb305 50 #[.slice none 0 0, .int .i64 (wrap64 (x4_1 + t306)), .int .i64 2] (0, 0) _ rfl (by (with_reducible repeat (first | refine blk_drewN ?_ _ | refine blk_drew ?_ | refine blk_alloc ?_ _)); refine blk_put (cs := #[.slice none 0 0, .int .i64 (wrap64 (x4_1 + t306)), .int .i64 x306002_1]) ?_ 2 _ rfl; (with_reducible repeat (first | refine blk_drewN ?_ _ | refine blk_drew ?_ | refine blk_alloc ?_ _)); refine blk_put (cs := #[.slice none 0 0, .int .i64 x306001_1, .int .i64 x306002_1]) ?_ 1 _ rfl; (with_reducible repeat (first | refine blk_drewN ?_ _ | refine blk_drew ?_ | refine blk_alloc ?_ _)); refine blk_put (cs := #[.slice none 0 0, .int .i64 x306001_1, .int .i64 x306002_1]) ?_ 0 _ rfl; (with_reducible repeat (first | refine blk_drewN ?_ _ | refine blk_drew ?_ | refine blk_alloc ?_ _)); exact BK305.out) Tryd.underlying50 rfl (by kernel_rfl)) rfl ?_
                      exact ⟨_, by first | rfl | (simp [errW_none, errW_some] <;> rfl) | (simp [*, errW_none, errW_some] <;> rfl), by first | exact Kd.R_nil _ _ _ _ _ | exact Kd.N_nil _ _ _ _ _ | exact Kd.V_nil _ _ _ _ _ | exact Kd.Q_nil _ _ _ _ _ | exact Kd.S_nil _ _ _ _ _, by repeat (first | (with_reducible first | exact HB.out | apply below_alloc | apply pw_below_drewN | apply below_drew1 | refine below_set ?_ GE305.out) | exact HB.out)⟩
                    · rw [if_neg c19] at H
                      have c19b0 : decide (0 ≤ t306) = false := decide_eq_false c19
                      clear c19
                      replace H := Option.bind_eq_some_iff.mp H
                      obtain ⟨t307, A210, H⟩ := H
                      replace H : (if t307 < 0 then (some (([] : List (S24)), (a0.size : Int), 4)) else (if 0 ≤ (wrap64 (t307 - 2)) then (if (wrap64 (t307 - 2)) ≤ (tx_.size : Int) then ((catchpitref05_Parse.f kj4 (tx_.extract 0 ((wrap64 (t307 - 2)) : Int).toNat)).bind fun bt308 => (if x3_1.length < 4398046511104 then (catchpitref06_Scan.l0 kj4 a0 (x3_1 ++ [(⟨bt308.1, bt308.2.1⟩ : S24)]) (wrap64 (x4_1 + t307))) else (none))) else (none)) else (none))) = some (r1, r2, r3) := H
                      have A21 := Aside0.mk A210
                      clear A210
                      by_cases c22 : t307 < 0
                      · rw [if_pos c22] at H
                        have c22b0 : decide (t307 < 0) = true := decide_eq_true c22
                        clear c22
                        simp only [Option.some.injEq, Prod.mk.injEq] at H
                        obtain ⟨rfl, rfl, rfl⟩ := H
                        have p10 : 0 ≤ (0 : Int) := (by omega)
                        have q10 : 0 < tx_.size := (by have : (0 : Int) < (tx_.size : Int) := of_decide_eq_true (by first | (with_reducible assumption) | assumption); omega)
                        have hx10 : ∀ h : 0 < tx_.size, ((tx_[0]'h).toNat : Int) = bt tx_ 0 := bt_at tx_ 0
                        clear p10
                        have qi10 : (0 < (tx_.size : Int)) = True := eq_true (of_decide_eq_true (by first | (with_reducible assumption) | assumption))
                        replace q10 := eq_true q10
                        go_wp2_with (first | ((with_reducible refine gate_callee (f := 58) rfl ?_); refine goesL_ (some 37) rfl rfl Tryd.func58 (by kernel_rfl) rfl #[.string tx_] rfl (by (try simp only [List.map_toArray, List.map_cons, List.map_nil]); first | done | rfl | (simp only [List.length_drop, List.length_take]; rfl)) ?_; (with_reducible refine (catchpitref06_Wrong.calls kj4 tx_ t306 _ ?side1 A18.out).mono ?_); (case side1 => first | exact hG | exact TabOk.drewN hG _ | exact TabOk.drewN (TabOk.drewN hG _) _ | exact TabOk.below hG (by repeat (first | (with_reducible first | exact HB.out | apply below_alloc | apply pw_below_drewN | apply below_drew1 | refine below_set ?_ GE305.out) | exact HB.out))); rintro e w' ⟨rfl, ⟨nd, rfl⟩⟩; refine ⟨_, rfl, ?_⟩; (try (rw [drewN_self wc]; generalize hq_ : World.drewN wc _ = wc; have n0_ : Aside0 (Kd.R k24 24 wc w.heap.size (fun _ => True) u3 x3_1) := ⟨by rw [← hq_]; exact (by (with_reducible repeat (first | apply Kd.R_alloc | apply Kd.R_drewN | apply Kd.R_drew)); exact HO_3.out)⟩; have n1_ : Aside0 (wc.heap[gb305]? = some (.cells #[.slice none 0 0, .int .i64 x306001_1, .int .i64 x306002_1] 50 (0, 0))) := ⟨by rw [← hq_]; exact (by (with_reducible repeat (first | refine blk_drewN ?_ _ | refine blk_drew ?_ | refine blk_alloc ?_ _)); exact BK305.out)⟩; have n2_ : Aside0 (Below w.heap.size w wc) := ⟨by rw [← hq_]; exact (by repeat (first | (with_reducible first | exact HB.out | apply below_alloc | apply pw_below_drewN | apply below_drew1 | refine below_set ?_ GE305.out) | exact HB.out))⟩; clear HO_3 BK305 HB hq_; have HO_3 := n0_; have BK305 := n1_; have HB := n2_; clear n0_ n1_ n2_))) | ((with_reducible refine gate_callee (f := 59) rfl ?_); refine goesL_ (some 45) rfl rfl Tryd.func59 (by kernel_rfl) rfl #[.string tx_] rfl (by (try simp only [List.map_toArray, List.map_cons, List.map_nil]); first | done | rfl | (simp only [List.length_drop, List.length_take]; rfl)) ?_; (with_reducible refine (catchpitref06_End.calls kj4 tx_ t307 _ ?side1 A21.out).mono ?_); (case side1 => first | exact hG | exact TabOk.drewN hG _ | exact TabOk.drewN (TabOk.drewN hG _) _ | exact TabOk.below hG (by repeat (first | (with_reducible first | exact HB.out | apply below_alloc | apply pw_below_drewN | apply below_drew1 | refine below_set ?_ GE305.out) | exact HB.out))); rintro e w' ⟨rfl, ⟨nd, rfl⟩⟩; refine ⟨_, rfl, ?_⟩; (try (rw [drewN_self wc]; generalize hq_ : World.drewN wc _ = wc; have n0_ : Aside0 (Kd.R k24 24 wc w.heap.size (fun _ => True) u3 x3_1) := ⟨by rw [← hq_]; exact (by (with_reducible repeat (first | apply Kd.R_alloc | apply Kd.R_drewN | apply Kd.R_drew)); exact HO_3.out)⟩; have n1_ : Aside0 (wc.heap[gb305]? = some (.cells #[.slice none 0 0, .int .i64 x306001_1, .int .i64 x306002_1] 50 (0, 0))) := ⟨by rw [← hq_]; exact (by (with_reducible repeat (first | refine blk_drewN ?_ _ | refine blk_drew ?_ | refine blk_alloc ?_ _)); exact BK305.out)⟩; have n2_ : Aside0 (Below w.heap.size w wc) := ⟨by rw [← hq_]; exact (by repeat (first | (with_reducible first | exact HB.out | apply below_alloc | apply pw_below_drewN | apply below_drew1 | refine below_set ?_ GE305.out) | exact HB.out))⟩; clear HO_3 BK305 HB hq_; have HO_3 := n0_; have BK305 := n1_; have HB := n2_; clear n0_ n1_ n2_)); have hcz23_0 : wc.cell? ⟨gb305, 0, none⟩ = some (.slice none 0 0) := (blk_cell BK305.out 0).trans rfl; have hcz23_1 : wc.cell? ⟨gb305, 1, none⟩ = some (.int .i64 x306001_1) := (blk_cell BK305.out 1).trans rfl; have hcz23_2 : wc.cell? ⟨gb305, 2, none⟩ = some (.int .i64 x306002_1) := (blk_cell BK305.out 2).trans rfl; have hfz23_0 := blk_frozen BK305.out 0; have hfz23_1 := blk_frozen BK305.out 1; have hfz23_2 := blk_frozen BK305.out 2))
                        refine bodyPost_ret (results_cell_row rfl _ _ gb305 50 #[.slice none 0 0, .int .i64 (a0.size : Int), .int .i64 4] (0, 0) _ rfl (by (with_reducible repeat (first | refine blk_drewN ?_ _ | refine blk_drew ?_ | refine blk_alloc ?_ _)); refine blk_put (cs := #[.slice none 0 0, .int .i64 (a0.size : Int), .int .i64 x306002_1]) ?_ 2 _ rfl; (with_reducible repeat (first | refine blk_drewN ?_ _ | refine blk_drew ?_ | refine blk_alloc ?_ _)); refine blk_put (cs := #[.slice none 0 0, .int .i64 x306001_1, .int .i64 x306002_1]) ?_ 1 _ rfl; (with_reducible repeat (first | refine blk_drewN ?_ _ | refine blk_drew ?_ | refine blk_alloc ?_ _)); refine blk_put (cs := #[.slice none 0 0, .int .i64 x306001_1, .int .i64 x306002_1]) ?_ 0 _ rfl; (with_reducible repeat (first | refine blk_drewN ?_ _ | refine blk_drew ?_ | refine blk_alloc ?_ _)); exact BK305.out) Tryd.underlying50 rfl (by kernel_rfl)) rfl ?_
                        exact ⟨_, by first | rfl | (simp [errW_none, errW_some] <;> rfl) | (simp [*, errW_none, errW_some] <;> rfl), by first | exact Kd.R_nil _ _ _ _ _ | exact Kd.N_nil _ _ _ _ _ | exact Kd.V_nil _ _ _ _ _ | exact Kd.Q_nil _ _ _ _ _ | exact Kd.S_nil _ _ _ _ _, by repeat (first | (with_reducible first | exact HB.out | apply below_alloc | apply pw_below_drewN | apply below_drew1 | refine below_set ?_ GE305.out) | exact HB.out)⟩
                      · rw [if_neg c22] at H
                        have c22b0 : decide (t307 < 0) = false := decide_eq_false c22
                        clear c22
                        obtain ⟨ji24, hji24⟩ : ∃ j_ : Int, (wrap64 (t307 - 2)) = j_ := ⟨_, rfl⟩
                        replace H : (if 0 ≤ (ji24) then (if (ji24) ≤ (tx_.size : Int) then ((catchpitref05_Parse.f kj4 (tx_.extract 0 ((ji24) : Int).toNat)).bind fun bt308 => (if x3_1.length < 4398046511104 then (catchpitref06_Scan.l0 kj4 a0 (x3_1 ++ [(⟨bt308.1, bt308.2.1⟩ : S24)]) (wrap64 (x4_1 + t307))) else (none))) else (none)) else (none)) = some (r1, r2, r3) := by first | (rw [hji24] at H; exact H) | (simp only [hji24] at H ⊢; exact H)
                        (try rw [hji24] at A18)
                        (try rw [hji24] at A21)
                        have hji24w : (IntKind.i64.wrap (t307 - 2)) = ji24 := (i64_w _).trans hji24
                        by_cases c25 : 0 ≤ (ji24)
                        · rw [if_pos c25] at H
                          have c25b0 := eq_true c25
                          have c25b1 : decide (0 ≤ (ji24)) = true := decide_eq_true c25
                          clear c25
                          by_cases c26 : (ji24) ≤ (tx_.size : Int)
                          · rw [if_pos c26] at H
                            have c26b0 := eq_true c26
                            try simp only [ByteArray.size_append, ByteArray.size_extract, Nat.min_self] at c26b0
                            have c26b1 : decide ((ji24) ≤ (tx_.size : Int)) = true := decide_eq_true c26
                            try simp only [ByteArray.size_append, ByteArray.size_extract, Nat.min_self] at c26b1
                            clear c26
                            replace H := Option.bind_eq_some_iff.mp H
                            obtain ⟨⟨t308, t309, t310⟩, A270, H⟩ := H
                            replace H : (if x3_1.length < 4398046511104 then (catchpitref06_Scan.l0 kj4 a0 (x3_1 ++ [(⟨t308, t309⟩ : S24)]) (wrap64 (x4_1 + t307))) else (none)) = some (r1, r2, r3) := H
                            have A27 := Aside0.mk A270
                            clear A270
                            by_cases c28 : x3_1.length < 4398046511104
                            · rw [if_pos c28] at H
                              have LMc28 := Aside0.mk c28
                              clear c28
                              obtain ⟨y312, hy312⟩ : ∃ y_ : List (S24), y_ = (x3_1 ++ [(⟨t308, t309⟩ : S24)]) := ⟨_, rfl⟩
                              replace H : (catchpitref06_Scan.l0 kj4 a0 y312 (wrap64 (x4_1 + t307))) = some (r1, r2, r3) := by first | (rw [hy312]; with_reducible exact H) | (have H2_ := (Option.bind_some _ _).symm.trans H; rw [hy312]; with_reducible exact H2_) | (have H2_ := (Option.bind_some _ _).symm.trans H; with_reducible exact H2_) | with_reducible exact H | (rw [hy312]; exact H) | exact H
                              have Ny312 := Aside0.mk hy312
                              clear hy312
                              have H' := Aside0.mk H
                              clear H
                              have p10 : 0 ≤ (0 : Int) := (by omega)
                              have q10 : 0 < tx_.size := (by have : (0 : Int) < (tx_.size : Int) := of_decide_eq_true (by first | (with_reducible assumption) | assumption); omega)
                              have hx10 : ∀ h : 0 < tx_.size, ((tx_[0]'h).toNat : Int) = bt tx_ 0 := bt_at tx_ 0
                              clear p10
                              have qi10 : (0 < (tx_.size : Int)) = True := eq_true (of_decide_eq_true (by first | (with_reducible assumption) | assumption))
                              replace q10 := eq_true q10
                              go_wp2_with (first | ((with_reducible refine gate_callee (f := 58) rfl ?_); refine goesL_ (some 37) rfl rfl Tryd.func58 (by kernel_rfl) rfl #[.string tx_] rfl (by (try simp only [List.map_toArray, List.map_cons, List.map_nil]); first | done | rfl | (simp only [List.length_drop, List.length_take]; rfl)) ?_; (with_reducible refine (catchpitref06_Wrong.calls kj4 tx_ t306 _ ?side1 A18.out).mono ?_); (case side1 => first | exact hG | exact TabOk.drewN hG _ | exact TabOk.drewN (TabOk.drewN hG _) _ | exact TabOk.below hG (by repeat (first | (with_reducible first | exact HB.out | apply below_alloc | apply pw_below_drewN | apply below_drew1 | refine below_set ?_ GE305.out) | exact HB.out))); rintro e w' ⟨rfl, ⟨nd, rfl⟩⟩; refine ⟨_, rfl, ?_⟩; (try (rw [drewN_self wc]; generalize hq_ : World.drewN wc _ = wc; have n0_ : Aside0 (Kd.R k24 24 wc w.heap.size (fun _ => True) u3 x3_1) := ⟨by rw [← hq_]; exact (by (with_reducible repeat (first | apply Kd.R_alloc | apply Kd.R_drewN | apply Kd.R_drew)); exact HO_3.out)⟩; have n1_ : Aside0 (wc.heap[gb305]? = some (.cells #[.slice none 0 0, .int .i64 x306001_1, .int .i64 x306002_1] 50 (0, 0))) := ⟨by rw [← hq_]; exact (by (with_reducible repeat (first | refine blk_drewN ?_ _ | refine blk_drew ?_ | refine blk_alloc ?_ _)); exact BK305.out)⟩; have n2_ : Aside0 (Below w.heap.size w wc) := ⟨by rw [← hq_]; exact (by repeat (first | (with_reducible first | exact HB.out | apply below_alloc | apply pw_below_drewN | apply below_drew1 | refine below_set ?_ GE305.out) | exact HB.out))⟩; clear HO_3 BK305 HB hq_; have HO_3 := n0_; have BK305 := n1_; have HB := n2_; clear n0_ n1_ n2_))) | ((with_reducible refine gate_callee (f := 59) rfl ?_); refine goesL_ (some 45) rfl rfl Tryd.func59 (by kernel_rfl) rfl #[.string tx_] rfl (by (try simp only [List.map_toArray, List.map_cons, List.map_nil]); first | done | rfl | (simp only [List.length_drop, List.length_take]; rfl)) ?_; (with_reducible refine (catchpitref06_End.calls kj4 tx_ t307 _ ?side1 A21.out).mono ?_); (case side1 => first | exact hG | exact TabOk.drewN hG _ | exact TabOk.drewN (TabOk.drewN hG _) _ | exact TabOk.below hG (by repeat (first | (with_reducible first | exact HB.out | apply below_alloc | apply pw_below_drewN | apply below_drew1 | refine below_set ?_ GE305.out) | exact HB.out))); rintro e w' ⟨rfl, ⟨nd, rfl⟩⟩; refine ⟨_, rfl, ?_⟩; (try (rw [drewN_self wc]; generalize hq_ : World.drewN wc _ = wc; have n0_ : Aside0 (Kd.R k24 24 wc w.heap.size (fun _ => True) u3 x3_1) := ⟨by rw [← hq_]; exact (by (with_reducible repeat (first | apply Kd.R_alloc | apply Kd.R_drewN | apply Kd.R_drew)); exact HO_3.out)⟩; have n1_ : Aside0 (wc.heap[gb305]? = some (.cells #[.slice none 0 0, .int .i64 x306001_1, .int .i64 x306002_1] 50 (0, 0))) := ⟨by rw [← hq_]; exact (by (with_reducible repeat (first | refine blk_drewN ?_ _ | refine blk_drew ?_ | refine blk_alloc ?_ _)); exact BK305.out)⟩; have n2_ : Aside0 (Below w.heap.size w wc) := ⟨by rw [← hq_]; exact (by repeat (first | (with_reducible first | exact HB.out | apply below_alloc | apply pw_below_drewN | apply below_drew1 | refine below_set ?_ GE305.out) | exact HB.out))⟩; clear HO_3 BK305 HB hq_; have HO_3 := n0_; have BK305 := n1_; have HB := n2_; clear n0_ n1_ n2_))) | ((with_reducible refine gate_callee (f := 16) rfl ?_); refine goesL_ (some 56) rfl rfl Tryd.func16 (by kernel_rfl) rfl #[.string (tx_.extract 0 ((ji24) : Int).toNat)] rfl (by (try simp only [List.map_toArray, List.map_cons, List.map_nil]); first | done | (simp only [hji24]; rfl) | rfl | (simp only [List.length_drop, List.length_take]; rfl)) ?_; (with_reducible refine (catchpitref05_Parse.calls kj4 (tx_.extract 0 ((ji24) : Int).toNat) t308 t309 t310 _ ?side1 A27.out).mono ?_); (case side1 => first | exact hG | exact TabOk.drewN hG _ | exact TabOk.drewN (TabOk.drewN hG _) _ | exact TabOk.below hG (by repeat (first | (with_reducible first | exact HB.out | apply below_alloc | apply pw_below_drewN | apply below_drew1 | refine below_set ?_ GE305.out) | exact HB.out))); rintro e w29 ⟨rfl, hb⟩; refine ⟨_, rfl, ?_⟩; have n0_ := Aside0.mk (Kd.R_below (by (with_reducible repeat (first | apply Kd.R_alloc | apply Kd.R_drewN | apply Kd.R_drew)); exact HO_3.out) hb); have n1_ := Aside0.mk (blk_below (g := gb305) (o := .cells #[.slice none 0 0, .int .i64 x306001_1, .int .i64 x306002_1] 50 (0, 0)) (by (with_reducible repeat (first | refine blk_drewN ?_ _ | refine blk_drew ?_ | refine blk_alloc ?_ _)); exact BK305.out) hb); have n2_ := Aside0.mk (below_step (by repeat (first | (with_reducible first | exact HB.out | apply below_alloc | apply pw_below_drewN | apply below_drew1 | refine below_set ?_ GE305.out) | exact HB.out)) hb); clear HO_3; clear BK305; clear HB; have HO_3 := n0_; have BK305 := n1_; have HB := n2_; clear n0_ n1_ n2_; (try clear hb); (try clear hb2); (try clear hk); (try clear hi)) | ((with_reducible refine gate_dst (N := 8) rfl ?_); refine box_event ?hg (N := 8) ?hd (cs := #[.string (⟨#[]⟩ : ByteArray), .string (⟨#[]⟩ : ByteArray)]) (t := 24) ?hr ?_; (case hd => rfl); (case hg => rfl); (case hr => first | (go_simp; done) | (go_simp; rfl)); intro gb311 hg w30 hbox hb; have n0_ := Aside0.mk (Kd.R_below (Kd.R_elderB (by (with_reducible repeat (first | apply Kd.R_alloc | apply Kd.R_drewN | apply Kd.R_drew)); exact HO_3.out) gb311 (Nat.le_of_eq hg.symm)) hb); have n1_ := Aside0.mk (blk_below (g := gb305) (o := .cells #[.slice none 0 0, .int .i64 x306001_1, .int .i64 x306002_1] 50 (0, 0)) (by (with_reducible repeat (first | refine blk_drewN ?_ _ | refine blk_drew ?_ | refine blk_alloc ?_ _)); exact BK305.out) hb); have n2_ := Aside0.mk (below_step (by repeat (first | (with_reducible first | exact HB.out | apply below_alloc | apply pw_below_drewN | apply below_drew1 | refine below_set ?_ GE305.out) | exact HB.out)) hb); have n3_ := Aside0.mk (hbox); have n4_ := Aside0.mk ((by rw [hg]; exact (below_size (by repeat (first | (with_reducible first | exact HB.out | apply below_alloc | apply pw_below_drewN | apply below_drew1 | refine below_set ?_ GE305.out) | exact HB.out))) : w.heap.size ≤ gb311)); have n5_ := Aside0.mk ((by rw [hg]; exact (below_size (by repeat (first | (with_reducible first | exact HB.out | apply below_alloc | apply pw_below_drewN | apply below_drew1 | refine below_set ?_ GE305.out) | exact HB.out))) : w.heap.size ≤ gb311)); have n6_ := Aside0.mk ((by rw [hg]; exact Nat.ne_of_lt (blk_lt (g := gb305) (o := .cells #[.slice none 0 0, .int .i64 x306001_1, .int .i64 x306002_1] 50 (0, 0)) (by (with_reducible repeat (first | refine blk_drewN ?_ _ | refine blk_drew ?_ | refine blk_alloc ?_ _)); exact BK305.out)) : gb305 ≠ gb311)); have n7_ := Aside0.mk ((by rw [hg]; exact Nat.ne_of_gt (blk_lt (g := gb305) (o := .cells #[.slice none 0 0, .int .i64 x306001_1, .int .i64 x306002_1] 50 (0, 0)) (by (with_reducible repeat (first | refine blk_drewN ?_ _ | refine blk_drew ?_ | refine blk_alloc ?_ _)); exact BK305.out)) : gb311 ≠ gb305)); clear HO_3; clear BK305; clear HB; have HO_3 := n0_; have BK305 := n1_; have HB := n2_; have BK311 := n3_; have GW311 := n4_; have GE311 := n5_; have NB305_311 := n6_; have NB311_305 := n7_; clear n0_ n1_ n2_ n3_ n4_ n5_ n6_ n7_; clear hb hbox hg; have hnb31 := NB311_305.out; have hnc31 := NB305_311.out; have hcz32_0 : w30.cell? ⟨gb311, 0, none⟩ = some (.string (⟨#[]⟩ : ByteArray)) := (blk_cell BK311.out 0).trans rfl; have hcz32_1 : w30.cell? ⟨gb311, 1, none⟩ = some (.string (⟨#[]⟩ : ByteArray)) := (blk_cell BK311.out 1).trans rfl; have hfz32_0 := blk_frozen BK311.out 0; have hfz32_1 := blk_frozen BK311.out 1) | ((with_reducible refine gate_builtin (b := .append) (xs := #[.tmp 59, .tmp 61]) rfl ?_); at_builtin; refine Kd.R_append k24 (w0 := w) w.heap.size rfl (.tmp 59) (.tmp 61) 36 24 (.agg #[(.string ⟨#[]⟩), (.string ⟨#[]⟩)]) 32 rfl Tryd.underlying36 info24 rfl (by decide) (by omega) u3 x3_1 (⟨t308, t309⟩ : S24) [.string t308, .string t309] (fun k_ => k_ ≠ gb311) (fun _ => False) rfl (by first | (go_simp; done) | (go_simp; rfl)) ?aP (fun _ hk => hk.elim) ?aF ?aO ?aB ?aS ?aL ?_; (case aP => exact k24_mkM _ _ _ (⟨t308, t309⟩ : S24)); (case aB => exact (by repeat (first | (with_reducible first | exact HB.out | apply below_alloc | apply pw_below_drewN | apply below_drew1 | refine below_set ?_ GE305.out | refine below_set ?_ GE311.out) | exact HB.out))); (case aF => exact (fun k_ hk => Kd.freshB (g := gb311) (o := .cells #[.string t308, .string t309] 24 (0, 0)) (by (with_reducible repeat (first | refine blk_drewN ?_ _ | refine blk_drew ?_ | refine blk_alloc ?_ _)); refine blk_put (cs := #[.string t308, .string (⟨#[]⟩ : ByteArray)]) ?_ 1 _ rfl; (with_reducible repeat (first | refine blk_drewN ?_ _ | refine blk_drew ?_ | refine blk_alloc ?_ _)); refine blk_put (cs := #[.string (⟨#[]⟩ : ByteArray), .string (⟨#[]⟩ : ByteArray)]) ?_ 0 _ rfl; (with_reducible repeat (first | refine blk_drewN ?_ _ | refine blk_drew ?_ | refine blk_alloc ?_ _)); exact BK311.out) k_ hk)); (case aO => exact (by (with_reducible repeat (first | apply Kd.R_alloc | apply Kd.R_drewN | apply Kd.R_drew)); exact Kd.R_mono (Kd.R_far (p := ⟨gb311, 1, none⟩) (Kd.R_far (p := ⟨gb311, 0, none⟩) (Kd.R_mono HO_3.out (fun k_ hk => (⟨hk, hk.2⟩ : _ ∧ k_ ≠ gb311))) (fun _ hk => hk.2) (.string t308)) (fun _ hk => hk.2) (.string t309)) (fun _ hk => hk.1.2))); (case aS => exact (below_size (by repeat (first | (with_reducible first | exact HB.out | apply below_alloc | apply pw_below_drewN | apply below_drew1 | refine below_set ?_ GE305.out | refine below_set ?_ GE311.out) | exact HB.out)))); (case aL => have := LMc28.out; omega); intro v313 w33 ho hb hg hat; rw [← Ny312.out] at ho; have n0_ := Aside0.mk (blk_grown (g := gb305) (o := .cells #[.slice none 0 0, .int .i64 x306001_1, .int .i64 x306002_1] 50 (0, 0)) (by (with_reducible repeat (first | refine blk_drewN ?_ _ | refine blk_drew ?_ | refine blk_alloc ?_ _)); refine blk_far ?_ NB305_311.out _; (with_reducible repeat (first | refine blk_drewN ?_ _ | refine blk_drew ?_ | refine blk_alloc ?_ _)); refine blk_far ?_ NB305_311.out _; (with_reducible repeat (first | refine blk_drewN ?_ _ | refine blk_drew ?_ | refine blk_alloc ?_ _)); exact BK305.out) hg (Kd.R_ne HO_3.out BK305.out (by decide))); have n1_ := Aside0.mk (blk_grown (g := gb311) (o := .cells #[.string t308, .string t309] 24 (0, 0)) (by (with_reducible repeat (first | refine blk_drewN ?_ _ | refine blk_drew ?_ | refine blk_alloc ?_ _)); refine blk_put (cs := #[.string t308, .string (⟨#[]⟩ : ByteArray)]) ?_ 1 _ rfl; (with_reducible repeat (first | refine blk_drewN ?_ _ | refine blk_drew ?_ | refine blk_alloc ?_ _)); refine blk_put (cs := #[.string (⟨#[]⟩ : ByteArray), .string (⟨#[]⟩ : ByteArray)]) ?_ 0 _ rfl; (with_reducible repeat (first | refine blk_drewN ?_ _ | refine blk_drew ?_ | refine blk_alloc ?_ _)); exact BK311.out) hg (Kd.R_away HO_3.out (fun _ hk => hk.2))); have n2_ := Aside0.mk (hb); have n3_ := Aside0.mk (ho); clear BK305; clear BK311; clear HB; clear HO_3; have BK305 := n0_; have BK311 := n1_; have HB := n2_; have HO314 := n3_; clear n0_ n1_ n2_ n3_; clear ho hb hg hat))
                              go_roundg kj4
                              case measure => have := HK1.out; have := HJ4.out; omega
                              case rel => exact ⟨(y312), (wrap64 (x4_1 + t307)), (x306001_1), (x306002_1), (by first | rfl | (simp; done) | (simp [*]; done)), H', ⟨by have := HK1.out; have := HJ4.out; omega⟩, ⟨by (with_reducible repeat (first | apply Kd.R_alloc | apply Kd.R_drewN | apply Kd.R_drew)); exact Kd.R_mono HO314.out (fun _ hk => trivial)⟩, ⟨by (with_reducible repeat (first | refine blk_drewN ?_ _ | refine blk_drew ?_ | refine blk_alloc ?_ _)); exact BK305.out⟩, ⟨by repeat (first | (with_reducible first | exact HB.out | apply below_alloc | apply pw_below_drewN | apply below_drew1 | refine below_set ?_ GE305.out | refine below_set ?_ GE311.out) | exact HB.out)⟩⟩
                            · rw [if_neg c28] at H
                              exact absurd H (by simp)
                          · rw [if_neg c26] at H
                            exact absurd H (by simp)
                        · rw [if_neg c25] at H
                          exact absurd H (by simp)
                · rw [if_neg c9] at H
                  exact absurd H (by simp)
        · rw [if_neg c4] at H
          exact absurd H (by simp)
      · rw [if_neg c3] at H
        exact absurd H (by simp)
def catchpitlaw06_BlockScans.f (k : Nat) (a0 : ByteArray) : Option (Bool) := (catchpitlaw06_wakes.f).bind fun t315 => (if t315 = true then (if (a0.size : Int) > 1000 then (some true) else ((block_Scan.f a0).bind fun bt316 => ((catchpitref06_Scan.f k a0).bind fun bt321 => ((catchpitref05_Fields.f k bt316.1 bt321.1).bind fun t327 => (if t327 = true then (if bt316.2.1 = bt321.2.1 then (some (bt316.2.2 == bt321.2.2)) else (some false)) else (some false)))))) else (some false))
theorem catchpitlaw06_BlockScans.mono : ∀ a0 k, LeO (catchpitlaw06_BlockScans.f k a0) (catchpitlaw06_BlockScans.f (k + 1) a0) := by
  intro a0 k
  unfold catchpitlaw06_BlockScans.f
  repeat' first
      | (with_reducible exact catchpitref05_Fields.mono _ _ _)
      | (with_reducible exact catchpitref06_Scan.mono _ _)
      | (with_reducible exact LeO.refl _)
      | (with_reducible exact LeO.none _)
      | (with_reducible refine LeO.ite ?_ ?_)
      | (with_reducible refine LeO.bind ?_ (fun _ => ?_))
      | exact catchpitref05_Fields.mono _ _ _
      | exact catchpitref06_Scan.mono _ _
      | exact LeO.none _
      | refine LeO.ite ?_ ?_
      | refine LeO.bind ?_ (fun _ => ?_)
set_option maxHeartbeats 8000000 in
set_option maxRecDepth 100000 in
theorem catchpitlaw06_BlockScans.calls (k : Nat) (a0 : ByteArray) (r : Bool) (w : World) (hG : TabOk w) (h : catchpitlaw06_BlockScans.f k a0 = some r) :
    Calls Tryd.prog 8 #[.string a0] w fun e w' => e = .returned (.bool r) ∧ Below w.heap.size w w' := by
  have hu50 := Tryd.underlying50
  have HB := Aside0.mk (Below.refl w.heap.size w)
  have H : ((catchpitlaw06_wakes.f).bind fun t315 => (if t315 = true then (if (a0.size : Int) > 1000 then (some true) else ((block_Scan.f a0).bind fun bt316 => ((catchpitref06_Scan.f k a0).bind fun bt321 => ((catchpitref05_Fields.f k bt316.1 bt321.1).bind fun t327 => (if t327 = true then (if bt316.2.1 = bt321.2.1 then (some (bt316.2.2 == bt321.2.2)) else (some false)) else (some false)))))) else (some false))) = some r := h
  clear h
  replace H := Option.bind_eq_some_iff.mp H
  obtain ⟨t315, A20, H⟩ := H
  replace H : (if t315 = true then (if (a0.size : Int) > 1000 then (some true) else ((block_Scan.f a0).bind fun bt316 => ((catchpitref06_Scan.f k a0).bind fun bt321 => ((catchpitref05_Fields.f k bt316.1 bt321.1).bind fun t327 => (if t327 = true then (if bt316.2.1 = bt321.2.1 then (some (bt316.2.2 == bt321.2.2)) else (some false)) else (some false)))))) else (some false)) = some r := H
  have A2 := Aside0.mk A20
  clear A20
  by_cases c3 : t315 = true
  · subst c3
    have H1 : (if (a0.size : Int) > 1000 then (some true) else ((block_Scan.f a0).bind fun bt316 => ((catchpitref06_Scan.f k a0).bind fun bt321 => ((catchpitref05_Fields.f k bt316.1 bt321.1).bind fun t327 => (if t327 = true then (if bt316.2.1 = bt321.2.1 then (some (bt316.2.2 == bt321.2.2)) else (some false)) else (some false)))))) = some r := by rw [if_pos rfl] at H; exact H
    clear H
    have H := H1
    clear H1
    by_cases c4 : (a0.size : Int) > 1000
    · rw [if_pos c4] at H
      have c4b0 : decide (1000 < (a0.size : Int)) = true := decide_eq_true c4
      have c4b1 : decide (1000 < a0.size) = true := decide_eq_true (by omega)
      clear c4
      obtain rfl := Option.some.inj H
      go_enter Tryd.func8, Tryd.ntmps8
      go_wp2_with (first | ((with_reducible refine gate_callee (f := 30) rfl ?_); refine goesL_ (some 7) rfl rfl Tryd.func30 (by kernel_rfl) rfl #[] rfl (by (try simp only [List.map_toArray, List.map_cons, List.map_nil]); first | done | rfl | (simp only [List.length_drop, List.length_take]; rfl)) ?_; (with_reducible refine (catchpitlaw06_wakes.calls  true _ ?side1 A2.out).mono ?_); (case side1 => first | exact hG | exact TabOk.drewN hG _ | exact TabOk.drewN (TabOk.drewN hG _) _ | exact TabOk.below hG (by repeat (first | (with_reducible first | exact HB.out | apply below_alloc | apply pw_below_drewN | apply below_drew1) | exact HB.out))); rintro e w5 ⟨rfl, hb⟩; refine ⟨_, rfl, ?_⟩; have n0_ := Aside0.mk (below_step (by repeat (first | (with_reducible first | exact HB.out | apply below_alloc | apply pw_below_drewN | apply below_drew1) | exact HB.out)) hb); clear HB; have HB := n0_; clear n0_; (try clear hb); (try clear hb2); (try clear hk); (try clear hi)))
      go_ret
      exact ⟨by first | rfl | (simp [errW_none, errW_some] <;> rfl) | (simp [*, errW_none, errW_some] <;> rfl), by repeat (first | (with_reducible first | exact HB.out | apply below_alloc | apply pw_below_drewN | apply below_drew1) | exact HB.out)⟩
    · rw [if_neg c4] at H
      have c4b0 : decide (1000 < (a0.size : Int)) = false := decide_eq_false c4
      have c4b1 : decide (1000 < a0.size) = false := decide_eq_false (by omega)
      clear c4
      replace H := Option.bind_eq_some_iff.mp H
      obtain ⟨⟨t316, t317, t318⟩, A60, H⟩ := H
      replace H : ((catchpitref06_Scan.f k a0).bind fun bt321 => ((catchpitref05_Fields.f k t316 bt321.1).bind fun t327 => (if t327 = true then (if t317 = bt321.2.1 then (some (t318 == bt321.2.2)) else (some false)) else (some false)))) = some r := H
      have A6 := Aside0.mk A60
      clear A60
      replace H := Option.bind_eq_some_iff.mp H
      obtain ⟨⟨t321, t324, t325⟩, A70, H⟩ := H
      replace H : ((catchpitref05_Fields.f k t316 t321).bind fun t327 => (if t327 = true then (if t317 = t324 then (some (t318 == t325)) else (some false)) else (some false))) = some r := H
      have A7 := Aside0.mk A70
      clear A70
      replace H := Option.bind_eq_some_iff.mp H
      obtain ⟨t327, A80, H⟩ := H
      replace H : (if t327 = true then (if t317 = t324 then (some (t318 == t325)) else (some false)) else (some false)) = some r := H
      have A8 := Aside0.mk A80
      clear A80
      by_cases c9 : t327 = true
      · subst c9
        have H1 : (if t317 = t324 then (some (t318 == t325)) else (some false)) = some r := by rw [if_pos rfl] at H; exact H
        clear H
        have H := H1
        clear H1
        by_cases c10 : t317 = t324
        · rw [if_pos c10] at H
          have c10b0 : (t317 == t324) = true := beq_iff_eq.mpr c10
          have c10b1 : (t317 != t324) = false := bne_eq_false_iff_eq.mpr c10
          clear c10
          obtain rfl := Option.some.inj H
          go_enter Tryd.func8, Tryd.ntmps8
          go_wp2_with (first | ((with_reducible refine gate_callee (f := 30) rfl ?_); refine goesL_ (some 7) rfl rfl Tryd.func30 (by kernel_rfl) rfl #[] rfl (by (try simp only [List.map_toArray, List.map_cons, List.map_nil]); first | done | rfl | (simp only [List.length_drop, List.length_take]; rfl)) ?_; (with_reducible refine (catchpitlaw06_wakes.calls  true _ ?side1 A2.out).mono ?_); (case side1 => first | exact hG | exact TabOk.drewN hG _ | exact TabOk.drewN (TabOk.drewN hG _) _ | exact TabOk.below hG (by repeat (first | (with_reducible first | exact HB.out | apply below_alloc | apply pw_below_drewN | apply below_drew1) | exact HB.out))); rintro e w11 ⟨rfl, hb⟩; refine ⟨_, rfl, ?_⟩; have n0_ := Aside0.mk (below_step (by repeat (first | (with_reducible first | exact HB.out | apply below_alloc | apply pw_below_drewN | apply below_drew1) | exact HB.out)) hb); clear HB; have HB := n0_; clear n0_; (try clear hb); (try clear hb2); (try clear hk); (try clear hi)) | ((with_reducible refine gate_callee (f := 31) rfl ?_); refine goesL_ (some 14) rfl rfl Tryd.func31 (by kernel_rfl) rfl #[.string a0] rfl (by (try simp only [List.map_toArray, List.map_cons, List.map_nil]); first | done | rfl | (simp only [List.length_drop, List.length_take]; rfl)) ?_; (with_reducible refine (block_Scan.calls a0 t316 t317 t318 _ ?side1 A6.out).mono ?_); (case side1 => first | exact hG | exact TabOk.drewN hG _ | exact TabOk.drewN (TabOk.drewN hG _) _ | exact TabOk.below hG (by repeat (first | (with_reducible first | exact HB.out | apply below_alloc | apply pw_below_drewN | apply below_drew1) | exact HB.out))); rintro e w12 ⟨v319, rfl, ho0, hb⟩; refine ⟨_, rfl, ?_⟩; have n0_ := Aside0.mk (Kd.R_lower ho0 (below_size (by repeat (first | (with_reducible first | exact HB.out | apply below_alloc | apply pw_below_drewN | apply below_drew1) | exact HB.out)))); have n1_ := Aside0.mk (below_step (by repeat (first | (with_reducible first | exact HB.out | apply below_alloc | apply pw_below_drewN | apply below_drew1) | exact HB.out)) hb); clear HB; have HO320 := n0_; have HB := n1_; clear n0_ n1_; (try clear hb); (try clear hb2); (try clear hk); (try clear hi); (try clear ho0)) | ((with_reducible refine gate_callee (f := 32) rfl ?_); refine goesL_ (some 19) rfl rfl Tryd.func32 (by kernel_rfl) rfl #[.string a0] rfl (by (try simp only [List.map_toArray, List.map_cons, List.map_nil]); first | done | rfl | (simp only [List.length_drop, List.length_take]; rfl)) ?_; (with_reducible refine (catchpitref06_Scan.calls k a0 t321 t324 t325 _ ?side1 A7.out).mono ?_); (case side1 => first | exact hG | exact TabOk.drewN hG _ | exact TabOk.drewN (TabOk.drewN hG _) _ | exact TabOk.below hG (by repeat (first | (with_reducible first | exact HB.out | apply below_alloc | apply pw_below_drewN | apply below_drew1) | exact HB.out))); rintro e w13 ⟨v322, rfl, ho0, hb⟩; refine ⟨_, rfl, ?_⟩; have n0_ := Aside0.mk (Kd.R_elder' (by (with_reducible repeat (first | apply Kd.R_alloc | apply Kd.R_drewN | apply Kd.R_drew)); exact HO320.out) (Kd.R_base ho0) hb); have n1_ := Aside0.mk (Kd.R_lower (Kd.R_new' ho0 (Kd.R_lt (by (with_reducible repeat (first | apply Kd.R_alloc | apply Kd.R_drewN | apply Kd.R_drew)); exact HO320.out))) (below_size (by repeat (first | (with_reducible first | exact HB.out | apply below_alloc | apply pw_below_drewN | apply below_drew1) | exact HB.out)))); have n2_ := Aside0.mk (below_step (by repeat (first | (with_reducible first | exact HB.out | apply below_alloc | apply pw_below_drewN | apply below_drew1) | exact HB.out)) hb); clear HO320; clear HB; have HO320 := n0_; have HO323 := n1_; have HB := n2_; clear n0_ n1_ n2_; (try clear hb); (try clear hb2); (try clear hk); (try clear hi); (try clear ho0)) | ((with_reducible refine gate_dst (N := 6) rfl ?_); refine box_event ?hg (N := 6) ?hd (cs := #[.slice none 0 0, .int .i64 0, .int .i64 0]) (t := 50) ?hr ?_; (case hd => rfl); (case hg => rfl); (case hr => first | (go_simp; done) | (go_simp; rfl)); intro gb326 hg w14 hbox hb; have n0_ := Aside0.mk (Kd.R_below (by (with_reducible repeat (first | apply Kd.R_alloc | apply Kd.R_drewN | apply Kd.R_drew)); exact HO320.out) hb); have n1_ := Aside0.mk (Kd.R_below (by (with_reducible repeat (first | apply Kd.R_alloc | apply Kd.R_drewN | apply Kd.R_drew)); exact HO323.out) hb); have n2_ := Aside0.mk (below_step (by repeat (first | (with_reducible first | exact HB.out | apply below_alloc | apply pw_below_drewN | apply below_drew1) | exact HB.out)) hb); have n3_ := Aside0.mk (hbox); have n4_ := Aside0.mk ((by rw [hg]; exact (below_size (by repeat (first | (with_reducible first | exact HB.out | apply below_alloc | apply pw_below_drewN | apply below_drew1) | exact HB.out))) : w.heap.size ≤ gb326)); have n5_ := Aside0.mk ((by rw [hg]; exact (below_size (by repeat (first | (with_reducible first | exact HB.out | apply below_alloc | apply pw_below_drewN | apply below_drew1) | exact HB.out))) : w.heap.size ≤ gb326)); clear HO320; clear HO323; clear HB; have HO320 := n0_; have HO323 := n1_; have HB := n2_; have BK326 := n3_; have GW326 := n4_; have GE326 := n5_; clear n0_ n1_ n2_ n3_ n4_ n5_; clear hb hbox hg; obtain ⟨Ao15, co15, eo15⟩ := Kd.R_slice HO323.out; subst eo15; have hcz16_0 : w14.cell? ⟨gb326, 0, none⟩ = some (.slice none 0 0) := (blk_cell BK326.out 0).trans rfl; have hcz16_1 : w14.cell? ⟨gb326, 1, none⟩ = some (.int .i64 0) := (blk_cell BK326.out 1).trans rfl; have hcz16_2 : w14.cell? ⟨gb326, 2, none⟩ = some (.int .i64 0) := (blk_cell BK326.out 2).trans rfl; have hfz16_0 := blk_frozen BK326.out 0; have hfz16_1 := blk_frozen BK326.out 1; have hfz16_2 := blk_frozen BK326.out 2; obtain ⟨Ao17, co17, eo17⟩ := Kd.R_slice HO320.out; subst eo17) | ((with_reducible refine gate_callee (f := 27) rfl ?_); refine goesL_ (some 23) rfl rfl Tryd.func27 (by kernel_rfl) rfl #[.slice Ao17 t316.length co17, .slice Ao15 t321.length co15] rfl (by (try simp only [List.map_toArray, List.map_cons, List.map_nil]); first | done | rfl | (simp only [List.length_drop, List.length_take]; rfl)) ?_; (with_reducible refine (catchpitref05_Fields.calls k _ _ t316 _ _ t321 true _ ?side1 ?side2 ?side3 ?side4 ?side5 A8.out).mono ?_); (case side1 => refine (Kd.R_reads' (e := 24) (base := w.heap.size) (ok := fun k_ => (True ∧ some k_ ≠ (.slice Ao15 t321.length co15 : Value).ownBlock)) (n := t316.length) (c := co17) ?_).2.2; exact (by (with_reducible repeat (first | apply Kd.R_alloc | apply Kd.R_drewN | apply Kd.R_drew)); exact (Kd.R_mono (Kd.R_far (p := ⟨gb326, 2, none⟩) (Kd.R_far (p := ⟨gb326, 1, none⟩) (Kd.R_far (p := ⟨gb326, 0, none⟩) (Kd.R_types HO320.out BK326.out (by decide)) (fun _ hk => hk.2) (.slice Ao15 t321.length co15)) (fun _ hk => hk.2) (.int .i64 t324)) (fun _ hk => hk.2) (.int .i64 t325)) (fun _ h_ => h_.1)))); (case side2 => exact (Kd.R_reads' HO320.out).2.1); (case side3 => refine (Kd.R_reads' (e := 24) (base := w.heap.size) (ok := fun k_ => (True ∧ some k_ ≠ (.slice Ao17 t316.length co17 : Value).ownBlock)) (n := t321.length) (c := co15) ?_).2.2; exact (by (with_reducible repeat (first | apply Kd.R_alloc | apply Kd.R_drewN | apply Kd.R_drew)); exact (Kd.R_mono (Kd.R_far (p := ⟨gb326, 2, none⟩) (Kd.R_far (p := ⟨gb326, 1, none⟩) (Kd.R_far (p := ⟨gb326, 0, none⟩) (Kd.R_types HO323.out BK326.out (by decide)) (fun _ hk => hk.2) (.slice Ao15 t321.length co15)) (fun _ hk => hk.2) (.int .i64 t324)) (fun _ hk => hk.2) (.int .i64 t325)) (fun _ h_ => h_.1)))); (case side4 => exact (Kd.R_reads' HO323.out).2.1); (case side5 => first | exact hG | exact TabOk.drewN hG _ | exact TabOk.drewN (TabOk.drewN hG _) _ | exact TabOk.below hG (by repeat (first | (with_reducible first | exact HB.out | apply below_alloc | apply pw_below_drewN | apply below_drew1 | refine below_set ?_ GE326.out) | exact HB.out))); rintro e w' ⟨rfl, ⟨nd, rfl⟩⟩; refine ⟨_, rfl, ?_⟩))
          go_ret
          exact ⟨by first | rfl | (simp [errW_none, errW_some] <;> rfl) | (simp [*, errW_none, errW_some] <;> rfl), by repeat (first | (with_reducible first | exact HB.out | apply below_alloc | apply pw_below_drewN | apply below_drew1 | refine below_set ?_ GE326.out) | exact HB.out)⟩
        · rw [if_neg c10] at H
          have c10b0 : (t317 == t324) = false := beq_eq_false_iff_ne.mpr c10
          have c10b1 : (t317 != t324) = true := bne_iff_ne.mpr c10
          obtain rfl := Option.some.inj H
          go_enter Tryd.func8, Tryd.ntmps8
          go_wp2_with (first | ((with_reducible refine gate_callee (f := 30) rfl ?_); refine goesL_ (some 7) rfl rfl Tryd.func30 (by kernel_rfl) rfl #[] rfl (by (try simp only [List.map_toArray, List.map_cons, List.map_nil]); first | done | rfl | (simp only [List.length_drop, List.length_take]; rfl)) ?_; (with_reducible refine (catchpitlaw06_wakes.calls  true _ ?side1 A2.out).mono ?_); (case side1 => first | exact hG | exact TabOk.drewN hG _ | exact TabOk.drewN (TabOk.drewN hG _) _ | exact TabOk.below hG (by repeat (first | (with_reducible first | exact HB.out | apply below_alloc | apply pw_below_drewN | apply below_drew1) | exact HB.out))); rintro e w18 ⟨rfl, hb⟩; refine ⟨_, rfl, ?_⟩; have n0_ := Aside0.mk (below_step (by repeat (first | (with_reducible first | exact HB.out | apply below_alloc | apply pw_below_drewN | apply below_drew1) | exact HB.out)) hb); clear HB; have HB := n0_; clear n0_; (try clear hb); (try clear hb2); (try clear hk); (try clear hi)) | ((with_reducible refine gate_callee (f := 31) rfl ?_); refine goesL_ (some 14) rfl rfl Tryd.func31 (by kernel_rfl) rfl #[.string a0] rfl (by (try simp only [List.map_toArray, List.map_cons, List.map_nil]); first | done | rfl | (simp only [List.length_drop, List.length_take]; rfl)) ?_; (with_reducible refine (block_Scan.calls a0 t316 t317 t318 _ ?side1 A6.out).mono ?_); (case side1 => first | exact hG | exact TabOk.drewN hG _ | exact TabOk.drewN (TabOk.drewN hG _) _ | exact TabOk.below hG (by repeat (first | (with_reducible first | exact HB.out | apply below_alloc | apply pw_below_drewN | apply below_drew1) | exact HB.out))); rintro e w19 ⟨v319, rfl, ho0, hb⟩; refine ⟨_, rfl, ?_⟩; have n0_ := Aside0.mk (Kd.R_lower ho0 (below_size (by repeat (first | (with_reducible first | exact HB.out | apply below_alloc | apply pw_below_drewN | apply below_drew1) | exact HB.out)))); have n1_ := Aside0.mk (below_step (by repeat (first | (with_reducible first | exact HB.out | apply below_alloc | apply pw_below_drewN | apply below_drew1) | exact HB.out)) hb); clear HB; have HO320 := n0_; have HB := n1_; clear n0_ n1_; (try clear hb); (try clear hb2); (try clear hk); (try clear hi); (try clear ho0)) | ((with_reducible refine gate_callee (f := 32) rfl ?_); refine goesL_ (some 19) rfl rfl Tryd.func32 (by kernel_rfl) rfl #[.string a0] rfl (by (try simp only [List.map_toArray, List.map_cons, List.map_nil]); first | done | rfl | (simp only [List.length_drop, List.length_take]; rfl)) ?_; (with_reducible refine (catchpitref06_Scan.calls k a0 t321 t324 t325 _ ?side1 A7.out).mono ?_); (case side1 => first | exact hG | exact TabOk.drewN hG _ | exact TabOk.drewN (TabOk.drewN hG _) _ | exact TabOk.below hG (by repeat (first | (with_reducible first | exact HB.out | apply below_alloc | apply pw_below_drewN | apply below_drew1) | exact HB.out))); rintro e w20 ⟨v322, rfl, ho0, hb⟩; refine ⟨_, rfl, ?_⟩; have n0_ := Aside0.mk (Kd.R_elder' (by (with_reducible repeat (first | apply Kd.R_alloc | apply Kd.R_drewN | apply Kd.R_drew)); exact HO320.out) (Kd.R_base ho0) hb); have n1_ := Aside0.mk (Kd.R_lower (Kd.R_new' ho0 (Kd.R_lt (by (with_reducible repeat (first | apply Kd.R_alloc | apply Kd.R_drewN | apply Kd.R_drew)); exact HO320.out))) (below_size (by repeat (first | (with_reducible first | exact HB.out | apply below_alloc | apply pw_below_drewN | apply below_drew1) | exact HB.out)))); have n2_ := Aside0.mk (below_step (by repeat (first | (with_reducible first | exact HB.out | apply below_alloc | apply pw_below_drewN | apply below_drew1) | exact HB.out)) hb); clear HO320; clear HB; have HO320 := n0_; have HO323 := n1_; have HB := n2_; clear n0_ n1_ n2_; (try clear hb); (try clear hb2); (try clear hk); (try clear hi); (try clear ho0)) | ((with_reducible refine gate_dst (N := 6) rfl ?_); refine box_event ?hg (N := 6) ?hd (cs := #[.slice none 0 0, .int .i64 0, .int .i64 0]) (t := 50) ?hr ?_; (case hd => rfl); (case hg => rfl); (case hr => first | (go_simp; done) | (go_simp; rfl)); intro gb326 hg w21 hbox hb; have n0_ := Aside0.mk (Kd.R_below (by (with_reducible repeat (first | apply Kd.R_alloc | apply Kd.R_drewN | apply Kd.R_drew)); exact HO320.out) hb); have n1_ := Aside0.mk (Kd.R_below (by (with_reducible repeat (first | apply Kd.R_alloc | apply Kd.R_drewN | apply Kd.R_drew)); exact HO323.out) hb); have n2_ := Aside0.mk (below_step (by repeat (first | (with_reducible first | exact HB.out | apply below_alloc | apply pw_below_drewN | apply below_drew1) | exact HB.out)) hb); have n3_ := Aside0.mk (hbox); have n4_ := Aside0.mk ((by rw [hg]; exact (below_size (by repeat (first | (with_reducible first | exact HB.out | apply below_alloc | apply pw_below_drewN | apply below_drew1) | exact HB.out))) : w.heap.size ≤ gb326)); have n5_ := Aside0.mk ((by rw [hg]; exact (below_size (by repeat (first | (with_reducible first | exact HB.out | apply below_alloc | apply pw_below_drewN | apply below_drew1) | exact HB.out))) : w.heap.size ≤ gb326)); clear HO320; clear HO323; clear HB; have HO320 := n0_; have HO323 := n1_; have HB := n2_; have BK326 := n3_; have GW326 := n4_; have GE326 := n5_; clear n0_ n1_ n2_ n3_ n4_ n5_; clear hb hbox hg; obtain ⟨Ao22, co22, eo22⟩ := Kd.R_slice HO323.out; subst eo22; have hcz23_0 : w21.cell? ⟨gb326, 0, none⟩ = some (.slice none 0 0) := (blk_cell BK326.out 0).trans rfl; have hcz23_1 : w21.cell? ⟨gb326, 1, none⟩ = some (.int .i64 0) := (blk_cell BK326.out 1).trans rfl; have hcz23_2 : w21.cell? ⟨gb326, 2, none⟩ = some (.int .i64 0) := (blk_cell BK326.out 2).trans rfl; have hfz23_0 := blk_frozen BK326.out 0; have hfz23_1 := blk_frozen BK326.out 1; have hfz23_2 := blk_frozen BK326.out 2; obtain ⟨Ao24, co24, eo24⟩ := Kd.R_slice HO320.out; subst eo24) | ((with_reducible refine gate_callee (f := 27) rfl ?_); refine goesL_ (some 23) rfl rfl Tryd.func27 (by kernel_rfl) rfl #[.slice Ao24 t316.length co24, .slice Ao22 t321.length co22] rfl (by (try simp only [List.map_toArray, List.map_cons, List.map_nil]); first | done | rfl | (simp only [List.length_drop, List.length_take]; rfl)) ?_; (with_reducible refine (catchpitref05_Fields.calls k _ _ t316 _ _ t321 true _ ?side1 ?side2 ?side3 ?side4 ?side5 A8.out).mono ?_); (case side1 => refine (Kd.R_reads' (e := 24) (base := w.heap.size) (ok := fun k_ => (True ∧ some k_ ≠ (.slice Ao22 t321.length co22 : Value).ownBlock)) (n := t316.length) (c := co24) ?_).2.2; exact (by (with_reducible repeat (first | apply Kd.R_alloc | apply Kd.R_drewN | apply Kd.R_drew)); exact (Kd.R_mono (Kd.R_far (p := ⟨gb326, 2, none⟩) (Kd.R_far (p := ⟨gb326, 1, none⟩) (Kd.R_far (p := ⟨gb326, 0, none⟩) (Kd.R_types HO320.out BK326.out (by decide)) (fun _ hk => hk.2) (.slice Ao22 t321.length co22)) (fun _ hk => hk.2) (.int .i64 t324)) (fun _ hk => hk.2) (.int .i64 t325)) (fun _ h_ => h_.1)))); (case side2 => exact (Kd.R_reads' HO320.out).2.1); (case side3 => refine (Kd.R_reads' (e := 24) (base := w.heap.size) (ok := fun k_ => (True ∧ some k_ ≠ (.slice Ao24 t316.length co24 : Value).ownBlock)) (n := t321.length) (c := co22) ?_).2.2; exact (by (with_reducible repeat (first | apply Kd.R_alloc | apply Kd.R_drewN | apply Kd.R_drew)); exact (Kd.R_mono (Kd.R_far (p := ⟨gb326, 2, none⟩) (Kd.R_far (p := ⟨gb326, 1, none⟩) (Kd.R_far (p := ⟨gb326, 0, none⟩) (Kd.R_types HO323.out BK326.out (by decide)) (fun _ hk => hk.2) (.slice Ao22 t321.length co22)) (fun _ hk => hk.2) (.int .i64 t324)) (fun _ hk => hk.2) (.int .i64 t325)) (fun _ h_ => h_.1)))); (case side4 => exact (Kd.R_reads' HO323.out).2.1); (case side5 => first | exact hG | exact TabOk.drewN hG _ | exact TabOk.drewN (TabOk.drewN hG _) _ | exact TabOk.below hG (by repeat (first | (with_reducible first | exact HB.out | apply below_alloc | apply pw_below_drewN | apply below_drew1 | refine below_set ?_ GE326.out) | exact HB.out))); rintro e w' ⟨rfl, ⟨nd, rfl⟩⟩; refine ⟨_, rfl, ?_⟩))
          go_ret
          exact ⟨by first | rfl | (simp [errW_none, errW_some] <;> rfl) | (simp [*, errW_none, errW_some] <;> rfl), by repeat (first | (with_reducible first | exact HB.out | apply below_alloc | apply pw_below_drewN | apply below_drew1 | refine below_set ?_ GE326.out) | exact HB.out)⟩
      · replace c9 := Bool.eq_false_iff.mpr c9
        subst c9
        have H1 : (some false) = some r := by rw [if_neg (show ¬ (false = true) by decide)] at H; exact H
        clear H
        have H := H1
        clear H1
        obtain rfl := Option.some.inj H
        go_enter Tryd.func8, Tryd.ntmps8
        go_wp2_with (first | ((with_reducible refine gate_callee (f := 30) rfl ?_); refine goesL_ (some 7) rfl rfl Tryd.func30 (by kernel_rfl) rfl #[] rfl (by (try simp only [List.map_toArray, List.map_cons, List.map_nil]); first | done | rfl | (simp only [List.length_drop, List.length_take]; rfl)) ?_; (with_reducible refine (catchpitlaw06_wakes.calls  true _ ?side1 A2.out).mono ?_); (case side1 => first | exact hG | exact TabOk.drewN hG _ | exact TabOk.drewN (TabOk.drewN hG _) _ | exact TabOk.below hG (by repeat (first | (with_reducible first | exact HB.out | apply below_alloc | apply pw_below_drewN | apply below_drew1) | exact HB.out))); rintro e w25 ⟨rfl, hb⟩; refine ⟨_, rfl, ?_⟩; have n0_ := Aside0.mk (below_step (by repeat (first | (with_reducible first | exact HB.out | apply below_alloc | apply pw_below_drewN | apply below_drew1) | exact HB.out)) hb); clear HB; have HB := n0_; clear n0_; (try clear hb); (try clear hb2); (try clear hk); (try clear hi)) | ((with_reducible refine gate_callee (f := 31) rfl ?_); refine goesL_ (some 14) rfl rfl Tryd.func31 (by kernel_rfl) rfl #[.string a0] rfl (by (try simp only [List.map_toArray, List.map_cons, List.map_nil]); first | done | rfl | (simp only [List.length_drop, List.length_take]; rfl)) ?_; (with_reducible refine (block_Scan.calls a0 t316 t317 t318 _ ?side1 A6.out).mono ?_); (case side1 => first | exact hG | exact TabOk.drewN hG _ | exact TabOk.drewN (TabOk.drewN hG _) _ | exact TabOk.below hG (by repeat (first | (with_reducible first | exact HB.out | apply below_alloc | apply pw_below_drewN | apply below_drew1) | exact HB.out))); rintro e w26 ⟨v319, rfl, ho0, hb⟩; refine ⟨_, rfl, ?_⟩; have n0_ := Aside0.mk (Kd.R_lower ho0 (below_size (by repeat (first | (with_reducible first | exact HB.out | apply below_alloc | apply pw_below_drewN | apply below_drew1) | exact HB.out)))); have n1_ := Aside0.mk (below_step (by repeat (first | (with_reducible first | exact HB.out | apply below_alloc | apply pw_below_drewN | apply below_drew1) | exact HB.out)) hb); clear HB; have HO320 := n0_; have HB := n1_; clear n0_ n1_; (try clear hb); (try clear hb2); (try clear hk); (try clear hi); (try clear ho0)) | ((with_reducible refine gate_callee (f := 32) rfl ?_); refine goesL_ (some 19) rfl rfl Tryd.func32 (by kernel_rfl) rfl #[.string a0] rfl (by (try simp only [List.map_toArray, List.map_cons, List.map_nil]); first | done | rfl | (simp only [List.length_drop, List.length_take]; rfl)) ?_; (with_reducible refine (catchpitref06_Scan.calls k a0 t321 t324 t325 _ ?side1 A7.out).mono ?_); (case side1 => first | exact hG | exact TabOk.drewN hG _ | exact TabOk.drewN (TabOk.drewN hG _) _ | exact TabOk.below hG (by repeat (first | (with_reducible first | exact HB.out | apply below_alloc | apply pw_below_drewN | apply below_drew1) | exact HB.out))); rintro e w27 ⟨v322, rfl, ho0, hb⟩; refine ⟨_, rfl, ?_⟩; have n0_ := Aside0.mk (Kd.R_elder' (by (with_reducible repeat (first | apply Kd.R_alloc | apply Kd.R_drewN | apply Kd.R_drew)); exact HO320.out) (Kd.R_base ho0) hb); have n1_ := Aside0.mk (Kd.R_lower (Kd.R_new' ho0 (Kd.R_lt (by (with_reducible repeat (first | apply Kd.R_alloc | apply Kd.R_drewN | apply Kd.R_drew)); exact HO320.out))) (below_size (by repeat (first | (with_reducible first | exact HB.out | apply below_alloc | apply pw_below_drewN | apply below_drew1) | exact HB.out)))); have n2_ := Aside0.mk (below_step (by repeat (first | (with_reducible first | exact HB.out | apply below_alloc | apply pw_below_drewN | apply below_drew1) | exact HB.out)) hb); clear HO320; clear HB; have HO320 := n0_; have HO323 := n1_; have HB := n2_; clear n0_ n1_ n2_; (try clear hb); (try clear hb2); (try clear hk); (try clear hi); (try clear ho0)) | ((with_reducible refine gate_dst (N := 6) rfl ?_); refine box_event ?hg (N := 6) ?hd (cs := #[.slice none 0 0, .int .i64 0, .int .i64 0]) (t := 50) ?hr ?_; (case hd => rfl); (case hg => rfl); (case hr => first | (go_simp; done) | (go_simp; rfl)); intro gb326 hg w28 hbox hb; have n0_ := Aside0.mk (Kd.R_below (by (with_reducible repeat (first | apply Kd.R_alloc | apply Kd.R_drewN | apply Kd.R_drew)); exact HO320.out) hb); have n1_ := Aside0.mk (Kd.R_below (by (with_reducible repeat (first | apply Kd.R_alloc | apply Kd.R_drewN | apply Kd.R_drew)); exact HO323.out) hb); have n2_ := Aside0.mk (below_step (by repeat (first | (with_reducible first | exact HB.out | apply below_alloc | apply pw_below_drewN | apply below_drew1) | exact HB.out)) hb); have n3_ := Aside0.mk (hbox); have n4_ := Aside0.mk ((by rw [hg]; exact (below_size (by repeat (first | (with_reducible first | exact HB.out | apply below_alloc | apply pw_below_drewN | apply below_drew1) | exact HB.out))) : w.heap.size ≤ gb326)); have n5_ := Aside0.mk ((by rw [hg]; exact (below_size (by repeat (first | (with_reducible first | exact HB.out | apply below_alloc | apply pw_below_drewN | apply below_drew1) | exact HB.out))) : w.heap.size ≤ gb326)); clear HO320; clear HO323; clear HB; have HO320 := n0_; have HO323 := n1_; have HB := n2_; have BK326 := n3_; have GW326 := n4_; have GE326 := n5_; clear n0_ n1_ n2_ n3_ n4_ n5_; clear hb hbox hg; obtain ⟨Ao29, co29, eo29⟩ := Kd.R_slice HO323.out; subst eo29; have hcz30_0 : w28.cell? ⟨gb326, 0, none⟩ = some (.slice none 0 0) := (blk_cell BK326.out 0).trans rfl; have hcz30_1 : w28.cell? ⟨gb326, 1, none⟩ = some (.int .i64 0) := (blk_cell BK326.out 1).trans rfl; have hcz30_2 : w28.cell? ⟨gb326, 2, none⟩ = some (.int .i64 0) := (blk_cell BK326.out 2).trans rfl; have hfz30_0 := blk_frozen BK326.out 0; have hfz30_1 := blk_frozen BK326.out 1; have hfz30_2 := blk_frozen BK326.out 2; obtain ⟨Ao31, co31, eo31⟩ := Kd.R_slice HO320.out; subst eo31) | ((with_reducible refine gate_callee (f := 27) rfl ?_); refine goesL_ (some 23) rfl rfl Tryd.func27 (by kernel_rfl) rfl #[.slice Ao31 t316.length co31, .slice Ao29 t321.length co29] rfl (by (try simp only [List.map_toArray, List.map_cons, List.map_nil]); first | done | rfl | (simp only [List.length_drop, List.length_take]; rfl)) ?_; (with_reducible refine (catchpitref05_Fields.calls k _ _ t316 _ _ t321 false _ ?side1 ?side2 ?side3 ?side4 ?side5 A8.out).mono ?_); (case side1 => refine (Kd.R_reads' (e := 24) (base := w.heap.size) (ok := fun k_ => (True ∧ some k_ ≠ (.slice Ao29 t321.length co29 : Value).ownBlock)) (n := t316.length) (c := co31) ?_).2.2; exact (by (with_reducible repeat (first | apply Kd.R_alloc | apply Kd.R_drewN | apply Kd.R_drew)); exact (Kd.R_mono (Kd.R_far (p := ⟨gb326, 2, none⟩) (Kd.R_far (p := ⟨gb326, 1, none⟩) (Kd.R_far (p := ⟨gb326, 0, none⟩) (Kd.R_types HO320.out BK326.out (by decide)) (fun _ hk => hk.2) (.slice Ao29 t321.length co29)) (fun _ hk => hk.2) (.int .i64 t324)) (fun _ hk => hk.2) (.int .i64 t325)) (fun _ h_ => h_.1)))); (case side2 => exact (Kd.R_reads' HO320.out).2.1); (case side3 => refine (Kd.R_reads' (e := 24) (base := w.heap.size) (ok := fun k_ => (True ∧ some k_ ≠ (.slice Ao31 t316.length co31 : Value).ownBlock)) (n := t321.length) (c := co29) ?_).2.2; exact (by (with_reducible repeat (first | apply Kd.R_alloc | apply Kd.R_drewN | apply Kd.R_drew)); exact (Kd.R_mono (Kd.R_far (p := ⟨gb326, 2, none⟩) (Kd.R_far (p := ⟨gb326, 1, none⟩) (Kd.R_far (p := ⟨gb326, 0, none⟩) (Kd.R_types HO323.out BK326.out (by decide)) (fun _ hk => hk.2) (.slice Ao29 t321.length co29)) (fun _ hk => hk.2) (.int .i64 t324)) (fun _ hk => hk.2) (.int .i64 t325)) (fun _ h_ => h_.1)))); (case side4 => exact (Kd.R_reads' HO323.out).2.1); (case side5 => first | exact hG | exact TabOk.drewN hG _ | exact TabOk.drewN (TabOk.drewN hG _) _ | exact TabOk.below hG (by repeat (first | (with_reducible first | exact HB.out | apply below_alloc | apply pw_below_drewN | apply below_drew1 | refine below_set ?_ GE326.out) | exact HB.out))); rintro e w' ⟨rfl, ⟨nd, rfl⟩⟩; refine ⟨_, rfl, ?_⟩))
        go_ret
        exact ⟨by first | rfl | (simp [errW_none, errW_some] <;> rfl) | (simp [*, errW_none, errW_some] <;> rfl), by repeat (first | (with_reducible first | exact HB.out | apply below_alloc | apply pw_below_drewN | apply below_drew1 | refine below_set ?_ GE326.out) | exact HB.out)⟩
  · replace c3 := Bool.eq_false_iff.mpr c3
    subst c3
    have H1 : (some false) = some r := by rw [if_neg (show ¬ (false = true) by decide)] at H; exact H
    clear H
    have H := H1
    clear H1
    obtain rfl := Option.some.inj H
    go_enter Tryd.func8, Tryd.ntmps8
    go_wp2_with (first | ((with_reducible refine gate_callee (f := 30) rfl ?_); refine goesL_ (some 7) rfl rfl Tryd.func30 (by kernel_rfl) rfl #[] rfl (by (try simp only [List.map_toArray, List.map_cons, List.map_nil]); first | done | rfl | (simp only [List.length_drop, List.length_take]; rfl)) ?_; (with_reducible refine (catchpitlaw06_wakes.calls  false _ ?side1 A2.out).mono ?_); (case side1 => first | exact hG | exact TabOk.drewN hG _ | exact TabOk.drewN (TabOk.drewN hG _) _ | exact TabOk.below hG (by repeat (first | (with_reducible first | exact HB.out | apply below_alloc | apply pw_below_drewN | apply below_drew1) | exact HB.out))); rintro e w32 ⟨rfl, hb⟩; refine ⟨_, rfl, ?_⟩; have n0_ := Aside0.mk (below_step (by repeat (first | (with_reducible first | exact HB.out | apply below_alloc | apply pw_below_drewN | apply below_drew1) | exact HB.out)) hb); clear HB; have HB := n0_; clear n0_; (try clear hb); (try clear hb2); (try clear hk); (try clear hi)))
    go_ret
    exact ⟨by first | rfl | (simp [errW_none, errW_some] <;> rfl) | (simp [*, errW_none, errW_some] <;> rfl), by repeat (first | (with_reducible first | exact HB.out | apply below_alloc | apply pw_below_drewN | apply below_drew1) | exact HB.out)⟩
def catchpitlaw06_BlockScans.Pure : Prop := ∀ (a0 : ByteArray), a0.size ≤ 140737488351232 → ∃ k, catchpitlaw06_BlockScans.f k a0 = some true
end Go.Proofs.YtdkecmjoenfjdaaDoor.Pr
end
section
namespace Go.Proofs.YtdkecmjoenfjdaaDoorH
open Go.RowKit Go.Proofs.YtdkecmjoenfjdaaDoorW.PrintWords Go.Proofs.YtdkecmjoenfjdaaDoorW.PrintLast Go.Proofs.YtdkecmjoenfjdaaDoorW.PrintMore Go.Proofs.YtdkecmjoenfjdaaDoor.Pr
def linesL : List Fld → List UInt8
  | [] => []
  | x :: l => (putS x.f0 x.f1).data.toList ++ ([13, 10] ++ linesL l)
def allRight (l : List Fld) : Bool := l.all fun x => rightB x.f0 x.f1
def sectL (l : List Fld) : ByteArray := ⟨(linesL l ++ [13, 10]).toArray⟩
def putR (l : List Fld) : ByteArray × Int := if allRight l then (sectL l, 0) else (⟨#[]⟩, 1)
def block_Put.f (l0 : List Fld) : Option (ByteArray × Int) := if (l0.all fun x => decide (x.f0.size ≤ 140737488351232 ∧ x.f1.size ≤ 140737488351232)) && decide (sumF l0 ≤ 1000000) then some (putR l0) else none
end Go.Proofs.YtdkecmjoenfjdaaDoorH
end
section
namespace Go.Proofs.YtdkecmjoenfjdaaDoorH
open Go.RowKit Go.Proofs.YtdkecmjoenfjdaaDoorW.PrintWords Go.Proofs.YtdkecmjoenfjdaaDoorW.PrintLast Go.Proofs.YtdkecmjoenfjdaaDoorW.PrintMore Go.Proofs.YtdkecmjoenfjdaaDoor.Pr
def tokU (c : UInt8) : Bool := tokI (c.toNat : Int)
def textU (c : UInt8) : Bool := textI (c.toNat : Int)
theorem all_bytes {p : UInt8 → Prop} (h : ∀ n : Fin 256, p (UInt8.ofNat n.val)) (c : UInt8) : p c := by
  have := h ⟨c.toNat, c.toNat_lt⟩
  simpa using this
theorem nxt0 (c : UInt8) : nxt 0 (c.toNat : Int) = if c = 13 then (4, true) else (1, tokU c) := all_bytes (p := fun c => nxt 0 (c.toNat : Int) = if c = 13 then (4, true) else (1, tokU c)) (by decide +kernel) c
theorem nxt1 (c : UInt8) : nxt 1 (c.toNat : Int) = if c = 58 then (2, true) else (1, tokU c) := all_bytes (p := fun c => nxt 1 (c.toNat : Int) = if c = 58 then (2, true) else (1, tokU c)) (by decide +kernel) c
theorem nxt2 (c : UInt8) : nxt 2 (c.toNat : Int) = if c = 13 then (3, true) else (2, textU c) := all_bytes (p := fun c => nxt 2 (c.toNat : Int) = if c = 13 then (3, true) else (2, textU c)) (by decide +kernel) c
theorem nxt3 (c : UInt8) : nxt 3 (c.toNat : Int) = (0, c == 10) := all_bytes (p := fun c => nxt 3 (c.toNat : Int) = (0, c == 10)) (by decide +kernel) c
theorem nxt4 (c : UInt8) : nxt 4 (c.toNat : Int) = (5, c == 10) := all_bytes (p := fun c => nxt 4 (c.toNat : Int) = (5, c == 10)) (by decide +kernel) c
theorem tok_ne (c : UInt8) : tokU c = true → c ≠ 58 ∧ c ≠ 13 ∧ c ≠ 10 := all_bytes (p := fun c => tokU c = true → c ≠ 58 ∧ c ≠ 13 ∧ c ≠ 10) (by decide +kernel) c
theorem text_ne (c : UInt8) : textU c = true → c ≠ 13 ∧ c ≠ 10 := all_bytes (p := fun c => textU c = true → c ≠ 13 ∧ c ≠ 10) (by decide +kernel) c
def scanL : Nat → List UInt8 → Int → Nat × Int
  | i, [], _ => (i, 4)
  | i, c :: l, st => if (nxt st (c.toNat : Int)).2 = true then (if (nxt st (c.toNat : Int)).1 = 5 then (i + 1, 0) else scanL (i + 1) l (nxt st (c.toNat : Int)).1) else (i, 2)
theorem drop_byte (s : ByteArray) (i : Nat) (h : i < s.size) : ∃ c, s.data.toList.drop i = c :: s.data.toList.drop (i + 1) ∧ bt s (i : Int) = (c.toNat : Int) := by
  have hi : i < s.data.toList.length := by rw [← size_eq_length]; exact h
  refine ⟨s.data.toList[i], List.drop_eq_getElem_cons hi, ?_⟩
  rw [bt_nat s i h, List.getD_eq_getElem?_getD, List.getElem?_eq_getElem hi]
  rfl
theorem scanP_L (s : ByteArray) : ∀ (k i : Nat) (st : Int), i ≤ s.size → s.size - i < k → scanP k s i st = scanL i (s.data.toList.drop i) st
  | 0, i, st, h1, h2 => by omega
  | k + 1, i, st, h1, h2 => by
    by_cases h : i < s.size
    · obtain ⟨c, hd, hb⟩ := drop_byte s i h
      rw [scanP, if_pos h, hd, scanL, hb, scanP_L s k (i + 1) _ (by omega) (by omega)]
    · rw [scanP, if_neg h, List.drop_eq_nil_of_le (by rw [← size_eq_length]; omega), scanL]
theorem scanP_whole (s : ByteArray) : scanP (s.size + 1) s 0 0 = scanL 0 s.data.toList 0 := by
  rw [scanP_L s _ 0 0 (Nat.zero_le _) (by omega), List.drop_zero]
theorem scanL_name : ∀ (a : List UInt8) (i : Nat) (r : List UInt8), (∀ c ∈ a, tokU c = true) → scanL i (a ++ r) 1 = scanL (i + a.length) r 1
  | [], i, r, _ => rfl
  | c :: a, i, r, h => by
    have hc := h c List.mem_cons_self
    rw [List.cons_append, scanL, nxt1, if_neg (tok_ne c hc).1, if_pos hc, if_neg (show ¬(1 : Int) = 5 by decide), scanL_name a (i + 1) r (fun d hd => h d (List.mem_cons_of_mem _ hd)), List.length_cons]
    congr 1
    omega
theorem scanL_value : ∀ (a : List UInt8) (i : Nat) (r : List UInt8), (∀ c ∈ a, textU c = true) → scanL i (a ++ r) 2 = scanL (i + a.length) r 2
  | [], i, r, _ => rfl
  | c :: a, i, r, h => by
    have hc := h c List.mem_cons_self
    rw [List.cons_append, scanL, nxt2, if_neg (text_ne c hc).1, if_pos hc, if_neg (show ¬(2 : Int) = 5 by decide), scanL_value a (i + 1) r (fun d hd => h d (List.mem_cons_of_mem _ hd)), List.length_cons]
    congr 1
    omega
theorem scanL_head (a : List UInt8) (i : Nat) (r : List UInt8) (ha : ∀ c ∈ a, tokU c = true) (hne : a ≠ []) : scanL i (a ++ r) 0 = scanL (i + a.length) r 1 := by
  cases a with
  | nil => exact absurd rfl hne
  | cons c a =>
    have hc := ha c List.mem_cons_self
    rw [List.cons_append, scanL, nxt0, if_neg (tok_ne c hc).2.1, if_pos hc, if_neg (show ¬(1 : Int) = 5 by decide), scanL_name a (i + 1) r (fun d hd => ha d (List.mem_cons_of_mem _ hd)), List.length_cons]
    congr 1
    omega
theorem scanL_colon (i : Nat) (r : List UInt8) : scanL i (58 :: r) 1 = scanL (i + 1) r 2 := by rw [scanL, nxt1, if_pos rfl, if_pos rfl, if_neg (by decide)]
theorem scanL_cr (i : Nat) (r : List UInt8) : scanL i (13 :: r) 2 = scanL (i + 1) r 3 := by rw [scanL, nxt2, if_pos rfl, if_pos rfl, if_neg (by decide)]
theorem scanL_lf (i : Nat) (r : List UInt8) : scanL i (10 :: r) 3 = scanL (i + 1) r 0 := by rw [scanL, nxt3, if_pos (by decide), if_neg (by decide)]
theorem scanL_line (a v : List UInt8) (i : Nat) (r : List UInt8) (ha : ∀ c ∈ a, tokU c = true) (hne : a ≠ []) (hv : ∀ c ∈ v, textU c = true) : scanL i (a ++ 58 :: (v ++ 13 :: 10 :: r)) 0 = scanL (i + (a.length + v.length + 3)) r 0 := by
  rw [scanL_head a i _ ha hne, scanL_colon, scanL_value v _ _ hv, scanL_cr, scanL_lf]
  congr 1
  omega
theorem scanL_ge : ∀ (l : List UInt8) (i : Nat) (st : Int), i ≤ (scanL i l st).1 ∧ (scanL i l st).1 ≤ i + l.length
  | [], i, st => ⟨Nat.le_refl _, Nat.le_refl _⟩
  | c :: l, i, st => by
    rw [scanL]
    split
    · split
      · simp only [List.length_cons]; omega
      · have := scanL_ge l (i + 1) (nxt st (c.toNat : Int)).1
        simp only [List.length_cons]; omega
    · simp only [List.length_cons]; omega
theorem index_crlf : ∀ (a r : List UInt8), (∀ c ∈ a, c ≠ 13) → Lib.index (a ++ 13 :: 10 :: r) [13, 10] = (a.length : Int)
  | [], r, _ => by
    rw [List.nil_append, Lib.index, if_pos (by rfl)]
    rfl
  | c :: a, r, h => by
    have ih := index_crlf a r (fun d hd => h d (List.mem_cons_of_mem _ hd))
    have hc := h c List.mem_cons_self
    rw [List.cons_append, Lib.index, ih]
    rw [if_neg (by
      intro hp
      rw [List.isPrefixOf] at hp
      have := (Bool.and_eq_true _ _ ▸ hp).1
      exact hc (beq_iff_eq.1 this).symm), if_neg (by rw [beq_iff_eq]; omega), List.length_cons]
    omega
theorem cut_crlf (a r : List UInt8) (h : ∀ c ∈ a, c ≠ 13) : Lib.cut (a ++ 13 :: 10 :: r) [13, 10] = (a, r, true) := by
  unfold Lib.cut
  rw [index_crlf a r h, if_pos (by omega)]
  simp only [Int.toNat_natCast, List.take_left, List.length_cons, List.length_nil]
  congr 2
  rw [show a.length + (0 + 1 + 1) = a.length + 2 from rfl, ← List.drop_drop, List.drop_left]
  rfl
theorem linesOf_cons (k : Nat) (s : ByteArray) (i : Nat) (a r : List UInt8) (hd : s.data.toList.drop i = a ++ 13 :: 10 :: r) (h : ∀ c ∈ a, c ≠ 13) :
    linesOf (k + 1) s i = (i, ⟨a.toArray⟩) :: (if a.isEmpty = true then [] else linesOf k s (i + a.length + 2)) := by
  rw [linesOf_succ, hd, cut_crlf a r h, if_pos rfl]
def endL : Nat → List UInt8 → Int
  | _, [] => -1
  | i, c :: l => match l with
    | [] => -1
    | d :: _ => if c = 13 ∧ d = 10 then (i : Int) + 2 else endL (i + 1) l
theorem endL_line : ∀ (a : List UInt8) (i : Nat) (r : List UInt8), (∀ c ∈ a, c ≠ 13) → endL i (a ++ 13 :: 10 :: r) = ((i + a.length + 2 : Nat) : Int)
  | [], i, r, _ => by
    rw [List.nil_append, endL, if_pos ⟨rfl, rfl⟩]
    simp
  | c :: a, i, r, h => by
    have ih := endL_line a (i + 1) r (fun d hd => h d (List.mem_cons_of_mem _ hd))
    have hc := h c List.mem_cons_self
    cases a with
    | nil =>
      rw [List.nil_append] at ih
      rw [List.cons_append, List.nil_append, endL, if_neg (fun e => hc e.1), ih]
      simp
    | cons d a =>
      rw [List.cons_append] at ih
      rw [List.cons_append, List.cons_append, endL, if_neg (fun e => hc e.1), ih]
      simp only [List.length_cons]
      congr 1
      omega
theorem endL_none : ∀ (a : List UInt8) (i : Nat), (∀ c ∈ a, c ≠ 13) → endL i a = -1 ∧ endL i (a ++ [13]) = -1
  | [], i, _ => ⟨rfl, rfl⟩
  | c :: a, i, h => by
    have ih := endL_none a (i + 1) (fun d hd => h d (List.mem_cons_of_mem _ hd))
    have hc := h c List.mem_cons_self
    cases a with
    | nil => exact ⟨rfl, by rw [List.cons_append, List.nil_append, endL, if_neg (fun e => hc e.1)]; rfl⟩
    | cons d a =>
      refine ⟨?_, ?_⟩
      · rw [endL, if_neg (fun e => hc e.1)]; exact ih.1
      · have := ih.2
        rw [List.cons_append] at this
        rw [List.cons_append, List.cons_append, endL, if_neg (fun e => hc e.1)]; exact this
theorem toNat_eq (c d : UInt8) : ((c.toNat : Int) = (d.toNat : Int)) ↔ c = d := by
  constructor
  · intro h
    exact UInt8.toNat_inj.1 (by omega)
  · rintro rfl; rfl
theorem ref06_End_l0 (s : ByteArray) (hs : s.size < 4611686018427387904) : ∀ (l : List UInt8) (i k : Nat), i ≤ s.size → s.data.toList.drop i = l → l.length < k → catchpitref06_End.l0 k s (i : Int) = some (endL i l)
  | [], i, k, h1, hd, hk => by
    obtain ⟨k, rfl⟩ : ∃ m, k = m + 1 := ⟨k - 1, by simp at hk; omega⟩
    have hl := congrArg List.length hd
    rw [List.length_drop, ← size_eq_length] at hl
    simp only [List.length_nil] at hl
    rw [catchpitref06_End.l0, if_neg (by unfold wrap64; omega)]
    rfl
  | [c], i, k, h1, hd, hk => by
    obtain ⟨k, rfl⟩ : ∃ m, k = m + 1 := ⟨k - 1, by simp at hk; omega⟩
    have hl := congrArg List.length hd
    rw [List.length_drop, ← size_eq_length] at hl
    simp only [List.length_cons, List.length_nil] at hl
    rw [catchpitref06_End.l0, if_neg (by unfold wrap64; omega)]
    rfl
  | c :: d :: l, i, k, h1, hd, hk => by
    obtain ⟨k, rfl⟩ : ∃ m, k = m + 1 := ⟨k - 1, by simp at hk; omega⟩
    have hl := congrArg List.length hd
    rw [List.length_drop, ← size_eq_length] at hl
    simp only [List.length_cons] at hl hk
    have hw : wrap64 ((i : Int) + 1) = ((i + 1 : Nat) : Int) := by unfold wrap64; omega
    have hw2 : wrap64 ((i : Int) + 2) = (i : Int) + 2 := by unfold wrap64; omega
    obtain ⟨c', hc', hb⟩ := drop_byte s i (by omega)
    obtain ⟨d', hd', hb2⟩ := drop_byte s (i + 1) (by omega)
    rw [hd] at hc'
    injection hc' with e1 e2
    rw [← e2] at hd'
    injection hd' with e3 e4
    subst e1 e3
    have ih := ref06_End_l0 s hs (d :: l) (i + 1) k (by omega) e2.symm (by simp only [List.length_cons]; omega)
    rw [catchpitref06_End.l0, hw, hw2, if_pos (by omega), if_pos (by omega), if_pos (by omega), hb, hb2, ih]
    by_cases h13 : c = 13
    · subst h13
      rw [if_pos (by decide), if_pos (by omega)]
      by_cases h10 : d = 10
      · subst h10
        rw [if_pos (by decide), endL, if_pos ⟨rfl, rfl⟩]
      · rw [if_neg (show ¬(d.toNat : Int) = 10 from fun e => h10 ((toNat_eq d 10).1 e)), endL, if_neg (fun e => h10 e.2)]
    · rw [if_neg (show ¬(c.toNat : Int) = 13 from fun e => h13 ((toNat_eq c 13).1 e)), endL, if_neg (fun e => h13 e.1)]
theorem ref06_End (s : ByteArray) (hs : s.size < 4611686018427387904) (k : Nat) (hk : s.size < k) : catchpitref06_End.f k s = some (endL 0 s.data.toList) :=
  ref06_End_l0 s hs s.data.toList 0 k (Nat.zero_le _) (List.drop_zero ..) (by rw [← size_eq_length]; exact hk)
theorem tok_one (s : ByteArray) (i k : Nat) (h : i < s.size) (hs : s.size ≤ 140737488355328) (hk : 3 ≤ k) : catchpitref02_Token.f k (s.extract i (i + 1)) = some (tokI (bt s (i : Int))) := by
  obtain ⟨c, hd, hb⟩ := drop_byte s i h
  have hl : (s.extract i (i + 1)).data.toList = [c] := by
    rw [extract_list, hd, show i + 1 - i = 1 by omega]
    rfl
  have hz : (s.extract i (i + 1)).size = 1 := by rw [size_eq_length, hl]; rfl
  have := ref02_Token_l0 (s.extract i (i + 1)) (by omega) 1 k 0 (by omega) (by omega) (by omega)
  show catchpitref02_Token.l0 k _ 0 = _
  rw [show ((0 : Nat) : Int) = 0 from rfl] at this
  rw [this, hb, hz, allFrom_zero]
  unfold allB
  rw [hl]
  simp
def Ends (p : UInt8 → Bool) (r : List UInt8) : Prop := r = [] ∨ ∃ d r', r = d :: r' ∧ p d = false
theorem span_of (p : UInt8 → Bool) : ∀ l : List UInt8, ∃ a r, l = a ++ r ∧ (∀ c ∈ a, p c = true) ∧ Ends p r
  | [] => ⟨[], [], rfl, fun _ h => absurd h List.not_mem_nil, .inl rfl⟩
  | c :: l => by
    cases hc : p c with
    | false => exact ⟨[], c :: l, rfl, fun _ h => absurd h List.not_mem_nil, .inr ⟨c, l, rfl, hc⟩⟩
    | true =>
      obtain ⟨a, r, rfl, h1, h2⟩ := span_of p l
      refine ⟨c :: a, r, rfl, fun d hd => ?_, h2⟩
      rcases List.mem_cons.1 hd with rfl | hd
      · exact hc
      · exact h1 d hd
theorem drop_step {s : ByteArray} {i : Nat} {c : UInt8} {l : List UInt8} (hd : s.data.toList.drop i = c :: l) : i < s.size ∧ bt s (i : Int) = (c.toNat : Int) ∧ s.data.toList.drop (i + 1) = l := by
  have hl := congrArg List.length hd
  rw [List.length_drop, ← size_eq_length] at hl
  simp only [List.length_cons] at hl
  have hi : i < s.size := by omega
  obtain ⟨c', hc', hb⟩ := drop_byte s i hi
  rw [hd] at hc'
  injection hc' with e1 e2
  subst e1
  exact ⟨hi, hb, e2.symm⟩
theorem drop_nil {s : ByteArray} {i : Nat} (hi : i ≤ s.size) (hd : s.data.toList.drop i = []) : i = s.size := by
  have hl := congrArg List.length hd
  rw [List.length_drop, ← size_eq_length] at hl
  simp only [List.length_nil] at hl
  omega
theorem wrapI (i : Nat) (s : ByteArray) (h : i < s.size) (hs : s.size ≤ 140737488355328) : wrap64 ((i : Int) + 1) = ((i + 1 : Nat) : Int) := by unfold wrap64; omega
theorem Wrong_l0 (s : ByteArray) (hs : s.size ≤ 140737488355328) : ∀ (a : List UInt8) (i k : Nat) (r : List UInt8), i ≤ s.size → s.data.toList.drop i = a ++ r → (∀ c ∈ a, tokU c = true) → Ends tokU r → 3 ≤ k →
    catchpitref06_Wrong.l0 (k + a.length + 1) s (i : Int) = catchpitref06_Wrong.j1 k s ((i + a.length : Nat) : Int)
  | [], i, k, r, hi, hd, ha, hr, hk => by
    rw [List.nil_append] at hd
    rw [List.length_nil, Nat.add_zero, Nat.add_zero, catchpitref06_Wrong.l0]
    rcases hr with rfl | ⟨d, r', rfl, hdt⟩
    · have := drop_nil hi hd
      rw [if_neg (by omega)]
      rfl
    · obtain ⟨h1, h2, h3⟩ := drop_step hd
      rw [if_pos (by omega), if_pos (by omega), wrapI i s h1 hs, if_pos (by omega), if_pos (by omega), Int.toNat_natCast, Int.toNat_natCast, tok_one s i k h1 hs hk, Option.bind_some, h2]
      rw [show tokI (d.toNat : Int) = false from hdt, if_neg (by decide)]
      rfl
  | c :: a, i, k, r, hi, hd, ha, hr, hk => by
    rw [List.cons_append] at hd
    obtain ⟨h1, h2, h3⟩ := drop_step hd
    have hc := ha c List.mem_cons_self
    rw [List.length_cons, show k + (a.length + 1) + 1 = (k + a.length + 1) + 1 by omega, catchpitref06_Wrong.l0, if_pos (by omega), if_pos (by omega), wrapI i s h1 hs, if_pos (by omega), if_pos (by omega), Int.toNat_natCast, Int.toNat_natCast, tok_one s i _ h1 hs (by omega), Option.bind_some, h2]
    rw [show tokI (c.toNat : Int) = true from hc, if_pos rfl, Wrong_l0 s hs a (i + 1) k r (by omega) h3 (fun d hd => ha d (List.mem_cons_of_mem _ hd)) hr hk]
    congr 2
    omega
theorem Wrong_l1 (s : ByteArray) (hs : s.size ≤ 140737488355328) : ∀ (a : List UInt8) (i k : Nat) (r : List UInt8), i ≤ s.size → s.data.toList.drop i = a ++ r → (∀ c ∈ a, textU c = true) → Ends textU r →
    catchpitref06_Wrong.l1 (k + a.length + 1) s (i : Int) = catchpitref06_Wrong.j4 k s ((i + a.length : Nat) : Int)
  | [], i, k, r, hi, hd, ha, hr => by
    rw [List.nil_append] at hd
    rw [List.length_nil, Nat.add_zero, Nat.add_zero, catchpitref06_Wrong.l1]
    rcases hr with rfl | ⟨d, r', rfl, hdt⟩
    · have := drop_nil hi hd
      rw [if_neg (by omega)]
      rfl
    · obtain ⟨h1, h2, h3⟩ := drop_step hd
      have hb := bt_range s i
      rw [if_pos (by omega), if_pos (by omega), ref02_byte _ hb.1 hb.2, Option.bind_some, h2]
      rw [show textI (d.toNat : Int) = false from hdt, if_neg (by decide)]
      rfl
  | c :: a, i, k, r, hi, hd, ha, hr => by
    rw [List.cons_append] at hd
    obtain ⟨h1, h2, h3⟩ := drop_step hd
    have hc := ha c List.mem_cons_self
    have hb := bt_range s i
    rw [List.length_cons, show k + (a.length + 1) + 1 = (k + a.length + 1) + 1 by omega, catchpitref06_Wrong.l1, if_pos (by omega), if_pos (by omega), wrapI i s h1 hs, ref02_byte _ hb.1 hb.2, Option.bind_some, h2]
    rw [show textI (c.toNat : Int) = true from hc, if_pos rfl, Wrong_l1 s hs a (i + 1) k r (by omega) h3 (fun d hd => ha d (List.mem_cons_of_mem _ hd)) hr]
    congr 2
    omega
inductive LineIs : List UInt8 → Int → Prop
  | open_ (a : List UInt8) (ha : ∀ c ∈ a, tokU c = true) : LineIs a (-1)
  | bad (a : List UInt8) (d : UInt8) (r : List UInt8) (ha : ∀ c ∈ a, tokU c = true) (hd : tokU d = false) (h : d ≠ 58 ∨ a = []) : LineIs (a ++ d :: r) (a.length : Int)
  | open2 (a v : List UInt8) (ha : ∀ c ∈ a, tokU c = true) (hne : a ≠ []) (hv : ∀ c ∈ v, textU c = true) : LineIs (a ++ 58 :: v) (-1)
  | bad2 (a v : List UInt8) (e : UInt8) (r : List UInt8) (ha : ∀ c ∈ a, tokU c = true) (hne : a ≠ []) (hv : ∀ c ∈ v, textU c = true) (he : textU e = false) (h : e ≠ 13) : LineIs (a ++ 58 :: (v ++ e :: r)) ((a.length + 1 + v.length : Nat) : Int)
  | open3 (a v : List UInt8) (ha : ∀ c ∈ a, tokU c = true) (hne : a ≠ []) (hv : ∀ c ∈ v, textU c = true) : LineIs (a ++ 58 :: (v ++ [13])) (-1)
  | bad3 (a v : List UInt8) (e : UInt8) (r : List UInt8) (ha : ∀ c ∈ a, tokU c = true) (hne : a ≠ []) (hv : ∀ c ∈ v, textU c = true) (h : e ≠ 10) : LineIs (a ++ 58 :: (v ++ 13 :: e :: r)) ((a.length + 1 + v.length + 1 : Nat) : Int)
  | good (a v r : List UInt8) (ha : ∀ c ∈ a, tokU c = true) (hne : a ≠ []) (hv : ∀ c ∈ v, textU c = true) : LineIs (a ++ 58 :: (v ++ 13 :: 10 :: r)) (-1)
theorem line_is (l : List UInt8) : ∃ q, LineIs l q := by
  obtain ⟨a, r, rfl, ha, hr⟩ := span_of tokU l
  rcases hr with rfl | ⟨d, r', rfl, hd⟩
  · exact ⟨_, by rw [List.append_nil]; exact .open_ a ha⟩
  by_cases h : d ≠ 58 ∨ a = []
  · exact ⟨_, .bad a d r' ha hd h⟩
  have h58 : d = 58 := Classical.byContradiction fun e => h (.inl e)
  have hne : a ≠ [] := fun e => h (.inr e)
  subst h58
  obtain ⟨v, r, rfl, hv, hr⟩ := span_of textU r'
  rcases hr with rfl | ⟨e, r', rfl, he⟩
  · exact ⟨_, by rw [List.append_nil]; exact .open2 a v ha hne hv⟩
  by_cases h13 : e = 13
  · subst h13
    cases r' with
    | nil => exact ⟨_, .open3 a v ha hne hv⟩
    | cons f r' =>
      by_cases h10 : f = 10
      · subst h10
        exact ⟨_, .good a v r' ha hne hv⟩
      · exact ⟨_, .bad3 a v f r' ha hne hv h10⟩
  · exact ⟨_, .bad2 a v e r' ha hne hv he h13⟩
theorem ref06_Wrong (s : ByteArray) (hs : s.size ≤ 140737488355328) (q : Int) (h : LineIs s.data.toList q) (k : Nat) (hk : 2 * s.size + 10 ≤ k) : catchpitref06_Wrong.f k s = some q := by
  show catchpitref06_Wrong.l0 k s 0 = _
  have hst : ∀ (a r : List UInt8), s.data.toList = a ++ r → (∀ c ∈ a, tokU c = true) → Ends tokU r → ∃ m, s.size + 8 ≤ m ∧ catchpitref06_Wrong.l0 k s 0 = catchpitref06_Wrong.j1 (m + 1) s (a.length : Int) := by
    intro a r hd ha hr
    have hl := congrArg List.length hd
    rw [← size_eq_length, List.length_append] at hl
    have := Wrong_l0 s hs a 0 (k - a.length - 1) r (Nat.zero_le _) hd ha hr (by omega)
    rw [show k - a.length - 1 + a.length + 1 = k by omega, Nat.zero_add] at this
    exact ⟨k - a.length - 2, by omega, by rw [show k - a.length - 2 + 1 = k - a.length - 1 by omega]; exact this⟩
  have hst2 : ∀ (a v r : List UInt8), s.data.toList = a ++ 58 :: (v ++ r) → (∀ c ∈ a, tokU c = true) → a ≠ [] → (∀ c ∈ v, textU c = true) → Ends textU r → ∃ m, catchpitref06_Wrong.l0 k s 0 = catchpitref06_Wrong.j4 (m + 1) s ((a.length + 1 + v.length : Nat) : Int) := by
    intro a v r hd ha hne hv hr
    obtain ⟨m, hm, he⟩ := hst a _ hd ha (.inr ⟨58, _, rfl, by decide +kernel⟩)
    have hl := congrArg List.length hd
    rw [← size_eq_length] at hl
    simp only [List.length_append, List.length_cons] at hl
    have hd1 : s.data.toList.drop a.length = 58 :: (v ++ r) := by rw [hd, List.drop_left]
    obtain ⟨h1, h2, h3⟩ := drop_step hd1
    have hpos : 0 < a.length := List.length_pos_iff.2 hne
    obtain ⟨m, rfl⟩ : ∃ q, m = q + 1 := ⟨m - 1, by omega⟩
    have := Wrong_l1 s hs v (a.length + 1) (m - v.length - 1) r (by omega) h3 hv hr
    rw [show m - v.length - 1 + v.length + 1 = m by omega] at this
    refine ⟨m - v.length - 2, ?_⟩
    rw [he, catchpitref06_Wrong.j1, if_neg (by omega), if_pos (by omega), if_pos (by omega), h2, if_pos (by decide), catchpitref06_Wrong.j2, if_neg (by rw [beq_iff_eq]; omega), wrapI _ s h1 hs, this, show m - v.length - 2 + 1 = m - v.length - 1 by omega]
  generalize hL : s.data.toList = L at *
  cases h with
  | open_ a ha =>
    obtain ⟨m, hm, he⟩ := hst L [] (by rw [List.append_nil]) ha (.inl rfl)
    rw [he, catchpitref06_Wrong.j1, if_pos (by rw [size_eq_length, hL])]
  | bad a d r ha hd h =>
    obtain ⟨m, hm, he⟩ := hst a _ rfl ha (.inr ⟨d, r, rfl, hd⟩)
    have hd1 : s.data.toList.drop a.length = d :: r := by rw [hL, List.drop_left]
    obtain ⟨h1, h2, h3⟩ := drop_step hd1
    obtain ⟨m, rfl⟩ : ∃ q, m = q + 1 := ⟨m - 1, by omega⟩
    rw [he, catchpitref06_Wrong.j1, if_neg (by omega), if_pos (by omega), if_pos (by omega), h2]
    by_cases h58 : d = 58
    · have ha0 : a = [] := h.resolve_left (fun e => e h58)
      subst h58 ha0
      rw [if_pos (by decide), catchpitref06_Wrong.j2, if_pos (by rfl)]
    · rw [if_neg (show ¬(d.toNat : Int) = 58 from fun e => h58 ((toNat_eq d 58).1 e)), catchpitref06_Wrong.j2, if_pos rfl]
  | open2 a v ha hne hv =>
    obtain ⟨m, he⟩ := hst2 a v [] (by rw [List.append_nil]) ha hne hv (.inl rfl)
    rw [he, catchpitref06_Wrong.j4, if_pos (by rw [size_eq_length, hL]; simp only [List.length_append, List.length_cons]; omega)]
  | bad2 a v e r ha hne hv he h =>
    obtain ⟨m, he2⟩ := hst2 a v (e :: r) rfl ha hne hv (.inr ⟨e, r, rfl, he⟩)
    have hd1 : s.data.toList.drop (a.length + 1 + v.length) = e :: r := by rw [hL, ← List.drop_drop, ← List.drop_drop, List.drop_left]; show (v ++ e :: r).drop v.length = _; rw [List.drop_left]
    obtain ⟨h1, h2, h3⟩ := drop_step hd1
    rw [he2, catchpitref06_Wrong.j4, if_neg (by omega), if_pos (by omega), if_pos (by omega), h2, if_neg (show ¬(e.toNat : Int) = 13 from fun e' => h ((toNat_eq e 13).1 e'))]
  | open3 a v ha hne hv =>
    obtain ⟨m, he2⟩ := hst2 a v [13] rfl ha hne hv (.inr ⟨13, [], rfl, by decide +kernel⟩)
    have hd1 : s.data.toList.drop (a.length + 1 + v.length) = [13] := by rw [hL, ← List.drop_drop, ← List.drop_drop, List.drop_left]; show (v ++ [13]).drop v.length = _; rw [List.drop_left]
    obtain ⟨h1, h2, h3⟩ := drop_step hd1
    have hz := congrArg List.length h3
    rw [List.length_drop, ← size_eq_length] at hz
    simp only [List.length_nil] at hz
    rw [he2, catchpitref06_Wrong.j4, if_neg (by omega), if_pos (by omega), if_pos (by omega), h2, if_pos (by decide), wrapI _ s h1 hs, if_neg (by omega)]
  | bad3 a v e r ha hne hv h =>
    obtain ⟨m, he2⟩ := hst2 a v (13 :: e :: r) rfl ha hne hv (.inr ⟨13, _, rfl, by decide +kernel⟩)
    have hd1 : s.data.toList.drop (a.length + 1 + v.length) = 13 :: e :: r := by rw [hL, ← List.drop_drop, ← List.drop_drop, List.drop_left]; show (v ++ 13 :: e :: r).drop v.length = _; rw [List.drop_left]
    obtain ⟨h1, h2, h3⟩ := drop_step hd1
    obtain ⟨h4, h5, h6⟩ := drop_step h3
    rw [he2, catchpitref06_Wrong.j4, if_neg (by omega), if_pos (by omega), if_pos (by omega), h2, if_pos (by decide), wrapI _ s h1 hs, if_pos (by omega), if_pos (by omega), h5, if_neg (show ¬(e.toNat : Int) = 10 from fun e' => h ((toNat_eq e 10).1 e'))]
  | good a v r ha hne hv =>
    obtain ⟨m, he2⟩ := hst2 a v (13 :: 10 :: r) rfl ha hne hv (.inr ⟨13, _, rfl, by decide +kernel⟩)
    have hd1 : s.data.toList.drop (a.length + 1 + v.length) = 13 :: 10 :: r := by rw [hL, ← List.drop_drop, ← List.drop_drop, List.drop_left]; show (v ++ 13 :: 10 :: r).drop v.length = _; rw [List.drop_left]
    obtain ⟨h1, h2, h3⟩ := drop_step hd1
    obtain ⟨h4, h5, h6⟩ := drop_step h3
    rw [he2, catchpitref06_Wrong.j4, if_neg (by omega), if_pos (by omega), if_pos (by omega), h2, if_pos (by decide), wrapI _ s h1 hs, if_pos (by omega), if_pos (by omega), h5, if_pos (by decide)]
end Go.Proofs.YtdkecmjoenfjdaaDoorH
end
