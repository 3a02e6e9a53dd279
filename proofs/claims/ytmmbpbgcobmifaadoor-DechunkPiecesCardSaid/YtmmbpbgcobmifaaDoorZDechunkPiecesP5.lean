import Derived.Test.YtmmbpbgcobmifaaDoorZDechunkPiecesP4
import Derived.Test.YtmmbpbgcobmifaaDoorZDechunkPiecesP3
import Derived.Test.YtmmbpbgcobmifaaDoorZDechunkPiecesP1
namespace Go.Proofs.YtmmbpbgcobmifaaDoorW.PrintWords
end Go.Proofs.YtmmbpbgcobmifaaDoorW.PrintWords
namespace Go.Proofs.YtmmbpbgcobmifaaDoorW.PrintLast
end Go.Proofs.YtmmbpbgcobmifaaDoorW.PrintLast
namespace Go.Proofs.YtmmbpbgcobmifaaDoorW.PrintMore
end Go.Proofs.YtmmbpbgcobmifaaDoorW.PrintMore
namespace Go.Proofs.YtmmbpbgcobmifaaDoor.Pr
end Go.Proofs.YtmmbpbgcobmifaaDoor.Pr
namespace Go.Proofs.YtmmbpbgcobmifaaDoorM
end Go.Proofs.YtmmbpbgcobmifaaDoorM
namespace Go.Proofs.YtmmbpbgcobmifaaDoorH
end Go.Proofs.YtmmbpbgcobmifaaDoorH
section
namespace Go.Proofs.YtmmbpbgcobmifaaDoor.Pr
end Go.Proofs.YtmmbpbgcobmifaaDoor.Pr
namespace Go.Proofs.YtmmbpbgcobmifaaDoorH
set_option linter.unusedVariables false
set_option linter.unusedSimpArgs false
open Go Go.RowKit Go.Proofs.YtmmbpbgcobmifaaDoorW.PrintWords Go.Proofs.YtmmbpbgcobmifaaDoorW.PrintLast Go.Proofs.YtmmbpbgcobmifaaDoorW.PrintMore Go.Proofs.YtmmbpbgcobmifaaDoor.Pr Go.Proofs.YtmmbpbgcobmifaaDoorM
def bodyM (s : List Int) (e0 e1 e2 : Nat) : RM (List Fld) × List Int := scannedM (secM s e1 e2) s (e0 : Int)
def RLF (B : Nat) (W : World) (v : Value) (l : List Fld) : Prop := Kd.R k53 53 W B (fun _ => True) v l
theorem RLF.far {B : Nat} {W W' : World} {v : Value} {l : List Fld} {g t : Nat} {cs : Array Value} (h : RLF B W v l) (hb : W.heap[g]? = some (.cells cs t (0, 0))) (ht : ∀ q, q ∈ 53 :: (k53).E → q ≠ t) (hm : ∀ k, ¬ k = g → W'.heap[k]? = W.heap[k]?) : RLF B W' v l :=
  Kd.R_mono (Kd.R_move (Kd.R_types h hb ht) (fun k hk => hm k hk.2)) (fun _ _ => trivial)
def toldM : RM (List Fld) × List Int → List Int × List Fld × Int × Int × Int
  | (.ok (l, a), D) => (D, l, (a : Int), (a : Int), 0)
  | (.error (a, er), _) => ([], [], 0, (a : Int), er)
def scanT (s : List Int) (e0 e1 e2 : Nat) : List Int × List Fld × Int × Int × Int := toldM (bodyM s e0 e1 e2)
def byteB (l : List Int) : Bool := l.all fun x => decide (0 ≤ x) && decide (x ≤ 255)
theorem byteB_iff {l : List Int} : byteB l = true ↔ ByteL l := by
  unfold byteB ByteL
  simp [List.all_eq_true]
theorem rightL_nat {a b c : Int} (h : rightL a b c = true) : ∃ x y z : Nat, a = (x : Int) ∧ b = (y : Int) ∧ c = (z : Int) ∧ x ≤ 65536 ∧ y ≤ 65536 ∧ z ≤ 65536 := by
  unfold rightL at h
  simp only [Bool.and_eq_true, decide_eq_true_eq] at h
  exact ⟨a.toNat, b.toNat, c.toNat, by omega, by omega, by omega, by omega, by omega, by omega⟩
def body_Right.f (a0 a1 a2 : Int) : Option Bool := some (rightL a0 a1 a2)
theorem body_Right.calls (a0_0 a0_1 a0_2 : Int) (r : Bool) (w : World) (hG : TabOk w) (h : body_Right.f a0_0 a0_1 a0_2 = some r) :
    Calls Tryd.prog 36 #[.agg #[.int .i64 a0_0, .int .i64 a0_1, .int .i64 a0_2]] w fun e w' => e = .returned (.bool r) ∧ Below w.heap.size w w' := by
  unfold body_Right.f at h
  injection h with h
  subst h
  exact bodyRight_calls _ _ _ w
def body_Scan.f (l0 : List Int) (a1_0 a1_1 a1_2 : Int) : Option (List Int × List S53 × Int × Int × Int) :=
  if l0.length ≤ 1073741824 ∧ byteB l0 = true then some (if rightL a1_0 a1_1 a1_2 = true then scanT l0 a1_0.toNat a1_1.toNat a1_2.toNat else ([], [], 0, 0, 1)) else none
def body_Payload.f (l0 : List Int) (a1_0 a1_1 a1_2 : Int) : Option (List Int) :=
  if l0.length ≤ 1073741824 ∧ byteB l0 = true then some (if rightL a1_0 a1_1 a1_2 = true then (bodyM l0 a1_0.toNat a1_1.toNat a1_2.toNat).2 else []) else none
end Go.Proofs.YtmmbpbgcobmifaaDoorH
end
section
namespace Go.Proofs.YtmmbpbgcobmifaaDoor.Pr
end Go.Proofs.YtmmbpbgcobmifaaDoor.Pr
namespace Go.Proofs.YtmmbpbgcobmifaaDoorH
set_option linter.unusedVariables false
set_option linter.unusedSimpArgs false
open Go.RowKit Go.Proofs.YtmmbpbgcobmifaaDoorW.PrintWords Go.Proofs.YtmmbpbgcobmifaaDoorW.PrintLast Go.Proofs.YtmmbpbgcobmifaaDoorW.PrintMore Go.Proofs.YtmmbpbgcobmifaaDoor.Pr Go.Proofs.YtmmbpbgcobmifaaDoorM
def pfM (l : List Int) : Fld := fldOf (strOfNums l)
def envM (e0 e1 e2 : Nat) : MEnv Fld := ⟨digI, textB, tokI, pfM, e0, e1, e2⟩
theorem all256 {p : Int → Prop} (h : ∀ n : Fin 256, p (n.val : Int)) {c : Int} (hc : 0 ≤ c ∧ c ≤ 255) : p c := by
  have := h ⟨c.toNat, by omega⟩
  rw [show ((⟨c.toNat, by omega⟩ : Fin 256).val : Int) = c by show (c.toNat : Int) = c; omega] at this
  exact this
end Go.Proofs.YtmmbpbgcobmifaaDoorH
end
section
namespace Go.Proofs.YtmmbpbgcobmifaaDoor.Pr
open Go.RowKit Go.Proofs.YtmmbpbgcobmifaaDoorH Go.Proofs.YtmmbpbgcobmifaaDoorW.PrintWords Go.Proofs.YtmmbpbgcobmifaaDoorW.PrintLast Go.Proofs.YtmmbpbgcobmifaaDoorW.PrintMore
attribute [local go_sem] max2_int min2_int max_two min_two max_three min_three max_four min_four   -- for this text's walks alone
set_option linter.unusedVariables false
set_option linter.unusedSimpArgs false
def catchpitref03_Same.l0 : Nat → List Int → List Int → Int → Option (Bool)
  | 0, _, _, _ => none
  | k + 1, x0, x1, x5 => if x5 < (x0.length : Int) then (if 0 ≤ x5 then (if x5 < (x1.length : Int) then (if (rd x0 x5) = (rd x1 x5) then (catchpitref03_Same.l0 k x0 x1 (wrap64 (x5 + 1))) else (some false)) else (none)) else (none)) else (some true)
def catchpitref03_Same.f (k : Nat) (l0 : List Int) (l1 : List Int) : Option (Bool) := if (l0.length : Int) = (l1.length : Int) then (catchpitref03_Same.l0 k l0 l1 0) else (some false)
theorem catchpitref03_Same.mono_l : ∀ k, (∀ y0 y1 y2, LeO (catchpitref03_Same.l0 k y0 y1 y2) (catchpitref03_Same.l0 (k + 1) y0 y1 y2))
  | 0 => fun _ _ _ r h => by simp [catchpitref03_Same.l0] at h
  | k + 1 => by
    have ih0 := catchpitref03_Same.mono_l k
    · intro y0 y1 y2
      unfold catchpitref03_Same.l0
      repeat' first
      | (with_reducible exact ih0 _ _ _)
      | (with_reducible exact LeO.refl _)
      | (with_reducible exact LeO.none _)
      | (with_reducible refine LeO.ite ?_ ?_)
      | (with_reducible refine LeO.bind ?_ (fun _ => ?_))
      | exact ih0 _ _ _
      | exact LeO.none _
      | refine LeO.ite ?_ ?_
      | refine LeO.bind ?_ (fun _ => ?_)
theorem catchpitref03_Same.mono : ∀ a0 a1 k, LeO (catchpitref03_Same.f k a0 a1) (catchpitref03_Same.f (k + 1) a0 a1) := by
  intro a0 a1 k
  have ih0 := catchpitref03_Same.mono_l k
  unfold catchpitref03_Same.f
  repeat' first
      | (with_reducible exact ih0 _ _ _)
      | (with_reducible exact LeO.refl _)
      | (with_reducible exact LeO.none _)
      | (with_reducible refine LeO.ite ?_ ?_)
      | (with_reducible refine LeO.bind ?_ (fun _ => ?_))
      | exact ih0 _ _ _
      | exact LeO.none _
      | refine LeO.ite ?_ ?_
      | refine LeO.bind ?_ (fun _ => ?_)
set_option maxHeartbeats 8000000 in
set_option maxRecDepth 100000 in
theorem catchpitref03_Same.calls (k : Nat) (A0 : Option Addr) (c0 : Nat) (l0 : List Int) (A1 : Option Addr) (c1 : Nat) (l1 : List Int) (r : Bool) (w : World) (hr0 : Kd.C (Kd.int .u8) w A0 l0.length l0) (hc0 : l0.length ≤ c0) (hr1 : Kd.C (Kd.int .u8) w A1 l1.length l1) (hc1 : l1.length ≤ c1) (hG : TabOk w) (h : catchpitref03_Same.f k l0 l1 = some r) :
    Calls Tryd.prog 41 #[.slice A0 l0.length c0, .slice A1 l1.length c1] w fun e w' => e = .returned (.bool r) ∧ Drawn0 w w' := by
  have HR0 := Aside0.mk hr0
  have HC0 := Aside0.mk hc0
  clear hr0 hc0
  have HR1 := Aside0.mk hr1
  have HC1 := Aside0.mk hc1
  clear hr1 hc1
  have H : (if (l0.length : Int) = (l1.length : Int) then (catchpitref03_Same.l0 k l0 l1 0) else (some false)) = some r := h
  clear h
  by_cases c3 : (l0.length : Int) = (l1.length : Int)
  · rw [if_pos c3] at H
    have c3b0 : ((l0.length : Int) == (l1.length : Int)) = true := beq_iff_eq.mpr c3
    have c3b1 : ((l0.length : Int) != (l1.length : Int)) = false := bne_eq_false_iff_eq.mpr c3
    have c3b2 : (l0.length == l1.length) = true := by first | simpa using c3 | (simp at c3 ⊢; omega)
    clear c3
    have H' := Aside0.mk H
    clear H
    go_enter Tryd.func41, Tryd.ntmps41
    go_wp2
    repeat (go_quiet (fail); try go_wp2)
    go_loopg [5] k (fun kq v5 w' => ∃ (x5_1 : Int), v5 = .int .i64 x5_1 ∧ Aside0 (catchpitref03_Same.l0 kq l0 l1 x5_1 = some r) ∧ Aside0 (kq ≤ k) ∧ Drawn0 w w')
    case atStart => exact ⟨(0), (by first | rfl | (simp; done) | (simp [*]; done)), H', ⟨Nat.le_refl _⟩, by repeat (first | exact Drawn0.refl _ | apply Drawn0.step)⟩
    case round =>
      clear H'
      try clear c1
      try clear p2
      try clear c3
      try clear c3b0
      try clear c3b1
      try clear c3b2
      obtain ⟨x5_1, rfl, HA, HK1, ⟨m1, rfl⟩⟩ := hrel
      cases gk with
      | zero => exact absurd HA.out (by simp [catchpitref03_Same.l0])
      | succ k1 =>
        have H := HA.out
        clear HA
        simp only [catchpitref03_Same.l0] at H
        by_cases c4 : x5_1 < (l0.length : Int)
        · rw [if_pos c4] at H
          have c4b0 : decide (x5_1 < (l0.length : Int)) = true := decide_eq_true c4
          clear c4
          by_cases c5 : 0 ≤ x5_1
          · rw [if_pos c5] at H
            have c5b0 : decide (0 ≤ x5_1) = true := decide_eq_true c5
            clear c5
            by_cases c6 : x5_1 < (l1.length : Int)
            · rw [if_pos c6] at H
              have c6b0 : decide (x5_1 < (l1.length : Int)) = true := decide_eq_true c6
              clear c6
              by_cases c7 : (rd l0 x5_1) = (rd l1 x5_1)
              · rw [if_pos c7] at H
                have c7b0 : ((rd l0 x5_1) == (rd l1 x5_1)) = true := beq_iff_eq.mpr c7
                have c7b1 : ((rd l0 x5_1) != (rd l1 x5_1)) = false := bne_eq_false_iff_eq.mpr c7
                clear c7
                have H' := Aside0.mk H
                clear H
                have p151 : 0 ≤ (x5_1 : Int) := of_decide_eq_true (by first | (with_reducible assumption) | assumption)
                have q151 : x5_1 < (l0.length : Int) := of_decide_eq_true (by first | (with_reducible assumption) | assumption)
                obtain ⟨ad151, e151, hx151_0⟩ := Kd.at_int HR0.out x5_1 p151 q151
                cases e151
                replace p151 := eq_true p151
                replace q151 := eq_true q151
                have p152 : 0 ≤ (x5_1 : Int) := of_decide_eq_true (by first | (with_reducible assumption) | assumption)
                have q152 : x5_1 < (l1.length : Int) := of_decide_eq_true (by first | (with_reducible assumption) | assumption)
                obtain ⟨ad152, e152, hx152_0⟩ := Kd.at_int HR1.out x5_1 p152 q152
                cases e152
                replace p152 := eq_true p152
                replace q152 := eq_true q152
                go_wp2
                repeat (go_quiet (fail); try go_wp2)
                go_roundg k1
                case measure => have := HK1.out; omega
                case rel => exact ⟨(wrap64 (x5_1 + 1)), (by first | rfl | (simp; done) | (simp [*]; done)), H', ⟨by have := HK1.out; omega⟩, by repeat (first | exact Drawn0.refl _ | apply Drawn0.step)⟩
              · rw [if_neg c7] at H
                have c7b0 : ((rd l0 x5_1) == (rd l1 x5_1)) = false := beq_eq_false_iff_ne.mpr c7
                have c7b1 : ((rd l0 x5_1) != (rd l1 x5_1)) = true := bne_iff_ne.mpr c7
                obtain rfl := Option.some.inj H
                have p151 : 0 ≤ (x5_1 : Int) := of_decide_eq_true (by first | (with_reducible assumption) | assumption)
                have q151 : x5_1 < (l0.length : Int) := of_decide_eq_true (by first | (with_reducible assumption) | assumption)
                obtain ⟨ad151, e151, hx151_0⟩ := Kd.at_int HR0.out x5_1 p151 q151
                cases e151
                replace p151 := eq_true p151
                replace q151 := eq_true q151
                have p152 : 0 ≤ (x5_1 : Int) := of_decide_eq_true (by first | (with_reducible assumption) | assumption)
                have q152 : x5_1 < (l1.length : Int) := of_decide_eq_true (by first | (with_reducible assumption) | assumption)
                obtain ⟨ad152, e152, hx152_0⟩ := Kd.at_int HR1.out x5_1 p152 q152
                cases e152
                replace p152 := eq_true p152
                replace q152 := eq_true q152
                go_wp2
                repeat (go_quiet (fail); try go_wp2)
                go_ret
                exact ⟨by first | rfl | (simp; done) | (simp [*]; done), by repeat (first | exact Drawn0.refl _ | apply Drawn0.step)⟩
            · rw [if_neg c6] at H
              exact absurd H (by simp)
          · rw [if_neg c5] at H
            exact absurd H (by simp)
        · rw [if_neg c4] at H
          have c4b0 : decide (x5_1 < (l0.length : Int)) = false := decide_eq_false c4
          clear c4
          obtain rfl := Option.some.inj H
          go_wp2
          repeat (go_quiet (fail); try go_wp2)
          go_ret
          exact ⟨by first | rfl | (simp; done) | (simp [*]; done), by repeat (first | exact Drawn0.refl _ | apply Drawn0.step)⟩
  · rw [if_neg c3] at H
    have c3b0 : ((l0.length : Int) == (l1.length : Int)) = false := beq_eq_false_iff_ne.mpr c3
    have c3b1 : ((l0.length : Int) != (l1.length : Int)) = true := bne_iff_ne.mpr c3
    have c3b2 : (l0.length == l1.length) = false := by first | simpa using c3 | (simp at c3 ⊢; omega)
    obtain rfl := Option.some.inj H
    go_enter Tryd.func41, Tryd.ntmps41
    go_wp2
    repeat (go_quiet (fail); try go_wp2)
    go_ret
    exact ⟨by first | rfl | (simp; done) | (simp [*]; done), by repeat (first | exact Drawn0.refl _ | apply Drawn0.step)⟩
end Go.Proofs.YtmmbpbgcobmifaaDoor.Pr
end
section
namespace Go.Proofs.YtmmbpbgcobmifaaDoor.Pr
open Go.RowKit Go.Proofs.YtmmbpbgcobmifaaDoorH Go.Proofs.YtmmbpbgcobmifaaDoorW.PrintWords Go.Proofs.YtmmbpbgcobmifaaDoorW.PrintLast Go.Proofs.YtmmbpbgcobmifaaDoorW.PrintMore
attribute [local go_sem] max2_int min2_int max_two min_two max_three min_three max_four min_four   -- for this text's walks alone
set_option linter.unusedVariables false
set_option linter.unusedSimpArgs false
theorem eqA53 (d : Nat) (w : World) (x0 y0 : ByteArray) (x1 y1 : ByteArray) :
    (Op.equalIn (d + 2) 53 (.agg #[.string x0, .string x1]) (.agg #[.string y0, .string y1])).run Tryd.prog w = .ok (x0.toList == y0.toList && (x1.toList == y1.toList)) w := by
  refine eqA_of Tryd.underlying53 (by kernel_rfl) ?_
  refine eqf_cons (by rfl) (by go_simp; rfl) (by go_simp; rfl) (by go_simp) ?_
  exact eqf_last (by rfl) (by go_simp; rfl) (by go_simp; rfl) (by go_simp)
end Go.Proofs.YtmmbpbgcobmifaaDoor.Pr
end
section
namespace Go.Proofs.YtmmbpbgcobmifaaDoor.Pr
open Go.RowKit Go.Proofs.YtmmbpbgcobmifaaDoorH Go.Proofs.YtmmbpbgcobmifaaDoorW.PrintWords Go.Proofs.YtmmbpbgcobmifaaDoorW.PrintLast Go.Proofs.YtmmbpbgcobmifaaDoorW.PrintMore
attribute [local go_sem] max2_int min2_int max_two min_two max_three min_three max_four min_four   -- for this text's walks alone
set_option linter.unusedVariables false
set_option linter.unusedSimpArgs false
attribute [local go_sem high] eqA53
def catchpitref05_Fields.l0 : Nat → List (S53) → List (S53) → Int → Option (Bool)
  | 0, _, _, _ => none
  | k + 1, x0, x1, x5 => if x5 < (x0.length : Int) then (if 0 ≤ x5 then (if x5 < (x1.length : Int) then (if (!((((rd_T53 x0 x5).f0).toList) == (((rd_T53 x1 x5).f0).toList)) || (!((((rd_T53 x0 x5).f1).toList) == (((rd_T53 x1 x5).f1).toList)))) = true then (some false) else (catchpitref05_Fields.l0 k x0 x1 (wrap64 (x5 + 1)))) else (none)) else (none)) else (some true)
def catchpitref05_Fields.f (k : Nat) (l0 : List (S53)) (l1 : List (S53)) : Option (Bool) := if (l0.length : Int) = (l1.length : Int) then (catchpitref05_Fields.l0 k l0 l1 0) else (some false)
theorem catchpitref05_Fields.mono_l : ∀ k, (∀ y0 y1 y2, LeO (catchpitref05_Fields.l0 k y0 y1 y2) (catchpitref05_Fields.l0 (k + 1) y0 y1 y2))
  | 0 => fun _ _ _ r h => by simp [catchpitref05_Fields.l0] at h
  | k + 1 => by
    have ih0 := catchpitref05_Fields.mono_l k
    · intro y0 y1 y2
      unfold catchpitref05_Fields.l0
      repeat' first
      | (with_reducible exact ih0 _ _ _)
      | (with_reducible exact LeO.refl _)
      | (with_reducible exact LeO.none _)
      | (with_reducible refine LeO.ite ?_ ?_)
      | (with_reducible refine LeO.bind ?_ (fun _ => ?_))
      | exact ih0 _ _ _
      | exact LeO.none _
      | refine LeO.ite ?_ ?_
      | refine LeO.bind ?_ (fun _ => ?_)
theorem catchpitref05_Fields.mono : ∀ a0 a1 k, LeO (catchpitref05_Fields.f k a0 a1) (catchpitref05_Fields.f (k + 1) a0 a1) := by
  intro a0 a1 k
  have ih0 := catchpitref05_Fields.mono_l k
  unfold catchpitref05_Fields.f
  repeat' first
      | (with_reducible exact ih0 _ _ _)
      | (with_reducible exact LeO.refl _)
      | (with_reducible exact LeO.none _)
      | (with_reducible refine LeO.ite ?_ ?_)
      | (with_reducible refine LeO.bind ?_ (fun _ => ?_))
      | exact ih0 _ _ _
      | exact LeO.none _
      | refine LeO.ite ?_ ?_
      | refine LeO.bind ?_ (fun _ => ?_)
set_option maxHeartbeats 8000000 in
set_option maxRecDepth 100000 in
theorem catchpitref05_Fields.calls (k : Nat) (A0 : Option Addr) (c0 : Nat) (l0 : List (S53)) (A1 : Option Addr) (c1 : Nat) (l1 : List (S53)) (r : Bool) (w : World) (hr0 : Kd.C k53 w A0 l0.length l0) (hc0 : l0.length ≤ c0) (hr1 : Kd.C k53 w A1 l1.length l1) (hc1 : l1.length ≤ c1) (hG : TabOk w) (h : catchpitref05_Fields.f k l0 l1 = some r) :
    Calls Tryd.prog 24 #[.slice A0 l0.length c0, .slice A1 l1.length c1] w fun e w' => e = .returned (.bool r) ∧ Drawn0 w w' := by
  have hu53 := Tryd.underlying53
  have HR0 := Aside0.mk hr0
  have HC0 := Aside0.mk hc0
  clear hr0 hc0
  have HR1 := Aside0.mk hr1
  have HC1 := Aside0.mk hc1
  clear hr1 hc1
  have H : (if (l0.length : Int) = (l1.length : Int) then (catchpitref05_Fields.l0 k l0 l1 0) else (some false)) = some r := h
  clear h
  by_cases c3 : (l0.length : Int) = (l1.length : Int)
  · rw [if_pos c3] at H
    have c3b0 : ((l0.length : Int) == (l1.length : Int)) = true := beq_iff_eq.mpr c3
    have c3b1 : ((l0.length : Int) != (l1.length : Int)) = false := bne_eq_false_iff_eq.mpr c3
    have c3b2 : (l0.length == l1.length) = true := by first | simpa using c3 | (simp at c3 ⊢; omega)
    clear c3
    have H' := Aside0.mk H
    clear H
    go_enter Tryd.func24, Tryd.ntmps24
    go_wp2
    repeat (go_quiet (fail); try go_wp2)
    go_loopg [5] k (fun kq v5 w' => ∃ (x5_1 : Int), v5 = .int .i64 x5_1 ∧ Aside0 (catchpitref05_Fields.l0 kq l0 l1 x5_1 = some r) ∧ Aside0 (kq ≤ k) ∧ Drawn0 w w')
    case atStart => exact ⟨(0), (by first | rfl | (simp; done) | (simp [*]; done)), H', ⟨Nat.le_refl _⟩, by repeat (first | exact Drawn0.refl _ | apply Drawn0.step)⟩
    case round =>
      clear H'
      try clear c1
      try clear c2
      try clear p2
      try clear c3
      try clear c3b0
      try clear c3b1
      try clear c3b2
      obtain ⟨x5_1, rfl, HA, HK1, ⟨m1, rfl⟩⟩ := hrel
      cases gk with
      | zero => exact absurd HA.out (by simp [catchpitref05_Fields.l0])
      | succ k1 =>
        have H := HA.out
        clear HA
        simp only [catchpitref05_Fields.l0] at H
        by_cases c4 : x5_1 < (l0.length : Int)
        · rw [if_pos c4] at H
          have c4b0 : decide (x5_1 < (l0.length : Int)) = true := decide_eq_true c4
          clear c4
          by_cases c5 : 0 ≤ x5_1
          · rw [if_pos c5] at H
            have c5b0 : decide (0 ≤ x5_1) = true := decide_eq_true c5
            clear c5
            by_cases c6 : x5_1 < (l1.length : Int)
            · rw [if_pos c6] at H
              have c6b0 : decide (x5_1 < (l1.length : Int)) = true := decide_eq_true c6
              clear c6
              by_cases c7 : (!((((rd_T53 l0 x5_1).f0).toList) == (((rd_T53 l1 x5_1).f0).toList)) || (!((((rd_T53 l0 x5_1).f1).toList) == (((rd_T53 l1 x5_1).f1).toList)))) = true
              · rw [if_pos c7] at H
                have c7b0 : (!((((rd_T53 l0 x5_1).f0).toList) == (((rd_T53 l1 x5_1).f0).toList)) || (!((((rd_T53 l0 x5_1).f1).toList) == (((rd_T53 l1 x5_1).f1).toList)))) = true := c7
                clear c7
                obtain rfl := Option.some.inj H
                have p154 : 0 ≤ (x5_1 : Int) := of_decide_eq_true (by first | (with_reducible assumption) | assumption)
                have q154 : x5_1 < (l0.length : Int) := of_decide_eq_true (by first | (with_reducible assumption) | assumption)
                obtain ⟨ad154, e154, hx154_0, hx154_1⟩ := at_T53 HR0.out x5_1 p154 q154
                cases e154
                replace p154 := eq_true p154
                replace q154 := eq_true q154
                have p155 : 0 ≤ (x5_1 : Int) := of_decide_eq_true (by first | (with_reducible assumption) | assumption)
                have q155 : x5_1 < (l1.length : Int) := of_decide_eq_true (by first | (with_reducible assumption) | assumption)
                obtain ⟨ad155, e155, hx155_0, hx155_1⟩ := at_T53 HR1.out x5_1 p155 q155
                cases e155
                replace p155 := eq_true p155
                replace q155 := eq_true q155
                go_wp2
                repeat (go_quiet (fail); try go_wp2)
                go_ret
                exact ⟨by first | rfl | (simp; done) | (simp [*]; done), by repeat (first | exact Drawn0.refl _ | apply Drawn0.step)⟩
              · rw [if_neg c7] at H
                have c7b0 : (!((((rd_T53 l0 x5_1).f0).toList) == (((rd_T53 l1 x5_1).f0).toList)) || (!((((rd_T53 l0 x5_1).f1).toList) == (((rd_T53 l1 x5_1).f1).toList)))) = false := by simpa using c7
                clear c7
                have H' := Aside0.mk H
                clear H
                have p154 : 0 ≤ (x5_1 : Int) := of_decide_eq_true (by first | (with_reducible assumption) | assumption)
                have q154 : x5_1 < (l0.length : Int) := of_decide_eq_true (by first | (with_reducible assumption) | assumption)
                obtain ⟨ad154, e154, hx154_0, hx154_1⟩ := at_T53 HR0.out x5_1 p154 q154
                cases e154
                replace p154 := eq_true p154
                replace q154 := eq_true q154
                have p155 : 0 ≤ (x5_1 : Int) := of_decide_eq_true (by first | (with_reducible assumption) | assumption)
                have q155 : x5_1 < (l1.length : Int) := of_decide_eq_true (by first | (with_reducible assumption) | assumption)
                obtain ⟨ad155, e155, hx155_0, hx155_1⟩ := at_T53 HR1.out x5_1 p155 q155
                cases e155
                replace p155 := eq_true p155
                replace q155 := eq_true q155
                go_wp2
                repeat (go_quiet (fail); try go_wp2)
                go_roundg k1
                case measure => have := HK1.out; omega
                case rel => exact ⟨(wrap64 (x5_1 + 1)), (by first | rfl | (simp; done) | (simp [*]; done)), H', ⟨by have := HK1.out; omega⟩, by repeat (first | exact Drawn0.refl _ | apply Drawn0.step)⟩
            · rw [if_neg c6] at H
              exact absurd H (by simp)
          · rw [if_neg c5] at H
            exact absurd H (by simp)
        · rw [if_neg c4] at H
          have c4b0 : decide (x5_1 < (l0.length : Int)) = false := decide_eq_false c4
          clear c4
          obtain rfl := Option.some.inj H
          go_wp2
          repeat (go_quiet (fail); try go_wp2)
          go_ret
          exact ⟨by first | rfl | (simp; done) | (simp [*]; done), by repeat (first | exact Drawn0.refl _ | apply Drawn0.step)⟩
  · rw [if_neg c3] at H
    have c3b0 : ((l0.length : Int) == (l1.length : Int)) = false := beq_eq_false_iff_ne.mpr c3
    have c3b1 : ((l0.length : Int) != (l1.length : Int)) = true := bne_iff_ne.mpr c3
    have c3b2 : (l0.length == l1.length) = false := by first | simpa using c3 | (simp at c3 ⊢; omega)
    obtain rfl := Option.some.inj H
    go_enter Tryd.func24, Tryd.ntmps24
    go_wp2
    repeat (go_quiet (fail); try go_wp2)
    go_ret
    exact ⟨by first | rfl | (simp; done) | (simp [*]; done), by repeat (first | exact Drawn0.refl _ | apply Drawn0.step)⟩
end Go.Proofs.YtmmbpbgcobmifaaDoor.Pr
end
section
namespace Go.Proofs.YtmmbpbgcobmifaaDoor.Pr
open Go.RowKit Go.Proofs.YtmmbpbgcobmifaaDoorH Go.Proofs.YtmmbpbgcobmifaaDoorW.PrintWords Go.Proofs.YtmmbpbgcobmifaaDoorW.PrintLast Go.Proofs.YtmmbpbgcobmifaaDoorW.PrintMore
attribute [local go_sem] max2_int min2_int max_two min_two max_three min_three max_four min_four   -- for this text's walks alone
set_option linter.unusedVariables false
set_option linter.unusedSimpArgs false
def catchpitref08_Same.f (k : Nat) (l0 : List Int) (l1 : List Int) : Option (Bool) := (catchpitref03_Same.f k l0 l1).bind fun t153 => (some t153)
theorem catchpitref08_Same.mono : ∀ a0 a1 k, LeO (catchpitref08_Same.f k a0 a1) (catchpitref08_Same.f (k + 1) a0 a1) := by
  intro a0 a1 k
  unfold catchpitref08_Same.f
  repeat' first
      | (with_reducible exact catchpitref03_Same.mono _ _ _)
      | (with_reducible exact LeO.refl _)
      | (with_reducible exact LeO.none _)
      | (with_reducible refine LeO.ite ?_ ?_)
      | (with_reducible refine LeO.bind ?_ (fun _ => ?_))
      | exact catchpitref03_Same.mono _ _ _
      | exact LeO.none _
      | refine LeO.ite ?_ ?_
      | refine LeO.bind ?_ (fun _ => ?_)
set_option maxHeartbeats 8000000 in
set_option maxRecDepth 100000 in
theorem catchpitref08_Same.calls (k : Nat) (A0 : Option Addr) (c0 : Nat) (l0 : List Int) (A1 : Option Addr) (c1 : Nat) (l1 : List Int) (r : Bool) (w : World) (hr0 : Kd.C (Kd.int .u8) w A0 l0.length l0) (hc0 : l0.length ≤ c0) (hr1 : Kd.C (Kd.int .u8) w A1 l1.length l1) (hc1 : l1.length ≤ c1) (hG : TabOk w) (h : catchpitref08_Same.f k l0 l1 = some r) :
    Calls Tryd.prog 22 #[.slice A0 l0.length c0, .slice A1 l1.length c1] w fun e w' => e = .returned (.bool r) ∧ Drawn0 w w' := by
  have HR0 := Aside0.mk hr0
  have HC0 := Aside0.mk hc0
  clear hr0 hc0
  have HR1 := Aside0.mk hr1
  have HC1 := Aside0.mk hc1
  clear hr1 hc1
  have H : ((catchpitref03_Same.f k l0 l1).bind fun t153 => (some t153)) = some r := h
  clear h
  replace H := Option.bind_eq_some_iff.mp H
  obtain ⟨t153, A30, H⟩ := H
  replace H : (some t153) = some r := H
  have A3 := Aside0.mk A30
  clear A30
  obtain rfl := Option.some.inj H
  go_enter Tryd.func22, Tryd.ntmps22
  go_wp2_with (first | ((with_reducible refine gate_callee (f := 41) rfl ?_); refine goesL_ (some 7) rfl rfl Tryd.func41 (by kernel_rfl) rfl #[.slice A0 l0.length c0, .slice A1 l1.length c1] rfl (by (try simp only [List.map_toArray, List.map_cons, List.map_nil]); first | done | rfl | (simp only [List.length_drop, List.length_take]; rfl)) ?_; (with_reducible refine (catchpitref03_Same.calls k _ _ l0 _ _ l1 t153 _ ?side1 ?side2 ?side3 ?side4 ?side5 A3.out).mono ?_); (case side1 => repeat (first | exact HR0.out | (with_reducible refine Kd.C_alloc ?_ _) | (with_reducible refine Kd.C_drewN ?_ _) | (with_reducible refine Kd.C_drew ?_))); (case side2 => exact HC0.out); (case side3 => repeat (first | exact HR1.out | (with_reducible refine Kd.C_alloc ?_ _) | (with_reducible refine Kd.C_drewN ?_ _) | (with_reducible refine Kd.C_drew ?_))); (case side4 => exact HC1.out); (case side5 => first | exact hG | exact TabOk.drewN hG _ | exact TabOk.drewN (TabOk.drewN hG _) _ | exact TabOk.below hG (by repeat (first | (with_reducible first | exact HB.out | apply below_alloc | apply pw_below_drewN | apply below_drew1) | exact HB.out))); rintro e w' ⟨rfl, ⟨nd, rfl⟩⟩; refine ⟨_, rfl, ?_⟩))
  go_ret
  exact ⟨by first | rfl | (simp; done) | (simp [*]; done), by repeat (first | exact Drawn0.refl _ | apply Drawn0.step)⟩
end Go.Proofs.YtmmbpbgcobmifaaDoor.Pr
end
section
namespace Go.Proofs.YtmmbpbgcobmifaaDoor.Pr
open Go.RowKit Go.Proofs.YtmmbpbgcobmifaaDoorH Go.Proofs.YtmmbpbgcobmifaaDoorW.PrintWords Go.Proofs.YtmmbpbgcobmifaaDoorW.PrintLast Go.Proofs.YtmmbpbgcobmifaaDoorW.PrintMore
attribute [local go_sem] max2_int min2_int max_two min_two max_three min_three max_four min_four   -- for this text's walks alone
set_option linter.unusedVariables false
set_option linter.unusedSimpArgs false
def catchpitlaw08_same.f (k : Nat) (l0_0 : List Int) (l0_1 : List (S53)) (a0_2 : Int) (l1_0 : List Int) (l1_1 : List (S53)) (a1_2 : Int) : Option (Bool) := (catchpitref08_Same.f k l0_0 l1_0).bind fun t158 => (if t158 = true then ((catchpitref05_Fields.f k l0_1 l1_1).bind fun t159 => (if t159 = true then (some (a0_2 == a1_2)) else (some false))) else (some false))
theorem catchpitlaw08_same.mono : ∀ a0 a1 a2 a3 a4 a5 k, LeO (catchpitlaw08_same.f k a0 a1 a2 a3 a4 a5) (catchpitlaw08_same.f (k + 1) a0 a1 a2 a3 a4 a5) := by
  intro a0 a1 a2 a3 a4 a5 k
  unfold catchpitlaw08_same.f
  repeat' first
      | (with_reducible exact catchpitref05_Fields.mono _ _ _)
      | (with_reducible exact catchpitref08_Same.mono _ _ _)
      | (with_reducible exact LeO.refl _)
      | (with_reducible exact LeO.none _)
      | (with_reducible refine LeO.ite ?_ ?_)
      | (with_reducible refine LeO.bind ?_ (fun _ => ?_))
      | exact catchpitref05_Fields.mono _ _ _
      | exact catchpitref08_Same.mono _ _ _
      | exact LeO.none _
      | refine LeO.ite ?_ ?_
      | refine LeO.bind ?_ (fun _ => ?_)
end Go.Proofs.YtmmbpbgcobmifaaDoor.Pr
end
section
namespace Go.Proofs.YtmmbpbgcobmifaaDoor.Pr
open Go.RowKit Go.Proofs.YtmmbpbgcobmifaaDoorH Go.Proofs.YtmmbpbgcobmifaaDoorW.PrintWords Go.Proofs.YtmmbpbgcobmifaaDoorW.PrintLast Go.Proofs.YtmmbpbgcobmifaaDoorW.PrintMore
attribute [local go_sem] max2_int min2_int max_two min_two max_three min_three max_four min_four   -- for this text's walks alone
set_option linter.unusedVariables false
set_option linter.unusedSimpArgs false
def catchpitref08_Right.f (a0_0 : Int) (a0_1 : Int) (a0_2 : Int) : Option (Bool) := if a0_0 ≥ 0 then (if a0_0 ≤ 65536 then (if a0_1 ≥ 0 then (if a0_1 ≤ 65536 then (if a0_2 ≥ 0 then (some (decide (a0_2 ≤ 65536))) else (some false)) else (some false)) else (some false)) else (some false)) else (some false)
set_option maxHeartbeats 8000000 in
set_option maxRecDepth 100000 in
theorem catchpitref08_Right.calls (a0_0 : Int) (a0_1 : Int) (a0_2 : Int) (r : Bool) (w : World) (hG : TabOk w) (h : catchpitref08_Right.f a0_0 a0_1 a0_2 = some r) :
    Calls Tryd.prog 14 #[.agg #[.int .i64 a0_0, .int .i64 a0_1, .int .i64 a0_2]] w fun e w' => e = .returned (.bool r) ∧ Below w.heap.size w w' := by
  have hu23 := Tryd.underlying23
  have HB := Aside0.mk (Below.refl w.heap.size w)
  have H : (if a0_0 ≥ 0 then (if a0_0 ≤ 65536 then (if a0_1 ≥ 0 then (if a0_1 ≤ 65536 then (if a0_2 ≥ 0 then (some (decide (a0_2 ≤ 65536))) else (some false)) else (some false)) else (some false)) else (some false)) else (some false)) = some r := h
  clear h
  by_cases c2 : a0_0 ≥ 0
  · rw [if_pos c2] at H
    have c2b0 : decide (0 ≤ a0_0) = true := decide_eq_true c2
    clear c2
    by_cases c3 : a0_0 ≤ 65536
    · rw [if_pos c3] at H
      have c3b0 : decide (a0_0 ≤ 65536) = true := decide_eq_true c3
      clear c3
      by_cases c4 : a0_1 ≥ 0
      · rw [if_pos c4] at H
        have c4b0 : decide (0 ≤ a0_1) = true := decide_eq_true c4
        clear c4
        by_cases c5 : a0_1 ≤ 65536
        · rw [if_pos c5] at H
          have c5b0 : decide (a0_1 ≤ 65536) = true := decide_eq_true c5
          clear c5
          by_cases c6 : a0_2 ≥ 0
          · rw [if_pos c6] at H
            have c6b0 : decide (0 ≤ a0_2) = true := decide_eq_true c6
            clear c6
            obtain rfl := Option.some.inj H
            go_enter Tryd.func14, Tryd.ntmps14
            go_wp2_with (first | ((with_reducible refine gate_dst (N := 1) rfl ?_); refine box_event ?hg (N := 1) ?hd (cs := #[.int .i64 a0_0, .int .i64 a0_1, .int .i64 a0_2]) (t := 23) ?hr ?_; (case hd => rfl); (case hg => rfl); (case hr => first | (go_simp; done) | (go_simp; rfl)); intro gb164 hg w7 hbox hb; have n0_ := Aside0.mk (below_step (by repeat (first | (with_reducible first | exact HB.out | apply below_alloc | apply pw_below_drewN | apply below_drew1) | exact HB.out)) hb); have n1_ := Aside0.mk (hbox); have n2_ := Aside0.mk ((by rw [hg]; exact (below_size (by repeat (first | (with_reducible first | exact HB.out | apply below_alloc | apply pw_below_drewN | apply below_drew1) | exact HB.out))) : w.heap.size ≤ gb164)); have n3_ := Aside0.mk ((by rw [hg]; exact (below_size (by repeat (first | (with_reducible first | exact HB.out | apply below_alloc | apply pw_below_drewN | apply below_drew1) | exact HB.out))) : w.heap.size ≤ gb164)); clear HB; have HB := n0_; have BK164 := n1_; have GW164 := n2_; have GE164 := n3_; clear n0_ n1_ n2_ n3_; clear hb hbox hg; have hcz8_0 : w7.cell? ⟨gb164, 0, none⟩ = some (.int .i64 a0_0) := (blk_cell BK164.out 0).trans rfl; have hcz8_1 : w7.cell? ⟨gb164, 1, none⟩ = some (.int .i64 a0_1) := (blk_cell BK164.out 1).trans rfl; have hcz8_2 : w7.cell? ⟨gb164, 2, none⟩ = some (.int .i64 a0_2) := (blk_cell BK164.out 2).trans rfl; have hfz8_0 := blk_frozen BK164.out 0; have hfz8_1 := blk_frozen BK164.out 1; have hfz8_2 := blk_frozen BK164.out 2))
            go_ret
            exact ⟨by first | rfl | (simp [errW_none, errW_some] <;> rfl) | (simp [*, errW_none, errW_some] <;> rfl), by repeat (first | (with_reducible first | exact HB.out | apply below_alloc | apply pw_below_drewN | apply below_drew1 | refine below_set ?_ GE164.out) | exact HB.out)⟩
          · rw [if_neg c6] at H
            have c6b0 : decide (0 ≤ a0_2) = false := decide_eq_false c6
            clear c6
            obtain rfl := Option.some.inj H
            go_enter Tryd.func14, Tryd.ntmps14
            go_wp2_with (first | ((with_reducible refine gate_dst (N := 1) rfl ?_); refine box_event ?hg (N := 1) ?hd (cs := #[.int .i64 a0_0, .int .i64 a0_1, .int .i64 a0_2]) (t := 23) ?hr ?_; (case hd => rfl); (case hg => rfl); (case hr => first | (go_simp; done) | (go_simp; rfl)); intro gb164 hg w9 hbox hb; have n0_ := Aside0.mk (below_step (by repeat (first | (with_reducible first | exact HB.out | apply below_alloc | apply pw_below_drewN | apply below_drew1) | exact HB.out)) hb); have n1_ := Aside0.mk (hbox); have n2_ := Aside0.mk ((by rw [hg]; exact (below_size (by repeat (first | (with_reducible first | exact HB.out | apply below_alloc | apply pw_below_drewN | apply below_drew1) | exact HB.out))) : w.heap.size ≤ gb164)); have n3_ := Aside0.mk ((by rw [hg]; exact (below_size (by repeat (first | (with_reducible first | exact HB.out | apply below_alloc | apply pw_below_drewN | apply below_drew1) | exact HB.out))) : w.heap.size ≤ gb164)); clear HB; have HB := n0_; have BK164 := n1_; have GW164 := n2_; have GE164 := n3_; clear n0_ n1_ n2_ n3_; clear hb hbox hg; have hcz10_0 : w9.cell? ⟨gb164, 0, none⟩ = some (.int .i64 a0_0) := (blk_cell BK164.out 0).trans rfl; have hcz10_1 : w9.cell? ⟨gb164, 1, none⟩ = some (.int .i64 a0_1) := (blk_cell BK164.out 1).trans rfl; have hcz10_2 : w9.cell? ⟨gb164, 2, none⟩ = some (.int .i64 a0_2) := (blk_cell BK164.out 2).trans rfl; have hfz10_0 := blk_frozen BK164.out 0; have hfz10_1 := blk_frozen BK164.out 1; have hfz10_2 := blk_frozen BK164.out 2))
            go_ret
            exact ⟨by first | rfl | (simp [errW_none, errW_some] <;> rfl) | (simp [*, errW_none, errW_some] <;> rfl), by repeat (first | (with_reducible first | exact HB.out | apply below_alloc | apply pw_below_drewN | apply below_drew1 | refine below_set ?_ GE164.out) | exact HB.out)⟩
        · rw [if_neg c5] at H
          have c5b0 : decide (a0_1 ≤ 65536) = false := decide_eq_false c5
          clear c5
          obtain rfl := Option.some.inj H
          go_enter Tryd.func14, Tryd.ntmps14
          go_wp2_with (first | ((with_reducible refine gate_dst (N := 1) rfl ?_); refine box_event ?hg (N := 1) ?hd (cs := #[.int .i64 a0_0, .int .i64 a0_1, .int .i64 a0_2]) (t := 23) ?hr ?_; (case hd => rfl); (case hg => rfl); (case hr => first | (go_simp; done) | (go_simp; rfl)); intro gb164 hg w11 hbox hb; have n0_ := Aside0.mk (below_step (by repeat (first | (with_reducible first | exact HB.out | apply below_alloc | apply pw_below_drewN | apply below_drew1) | exact HB.out)) hb); have n1_ := Aside0.mk (hbox); have n2_ := Aside0.mk ((by rw [hg]; exact (below_size (by repeat (first | (with_reducible first | exact HB.out | apply below_alloc | apply pw_below_drewN | apply below_drew1) | exact HB.out))) : w.heap.size ≤ gb164)); have n3_ := Aside0.mk ((by rw [hg]; exact (below_size (by repeat (first | (with_reducible first | exact HB.out | apply below_alloc | apply pw_below_drewN | apply below_drew1) | exact HB.out))) : w.heap.size ≤ gb164)); clear HB; have HB := n0_; have BK164 := n1_; have GW164 := n2_; have GE164 := n3_; clear n0_ n1_ n2_ n3_; clear hb hbox hg; have hcz12_0 : w11.cell? ⟨gb164, 0, none⟩ = some (.int .i64 a0_0) := (blk_cell BK164.out 0).trans rfl; have hcz12_1 : w11.cell? ⟨gb164, 1, none⟩ = some (.int .i64 a0_1) := (blk_cell BK164.out 1).trans rfl; have hcz12_2 : w11.cell? ⟨gb164, 2, none⟩ = some (.int .i64 a0_2) := (blk_cell BK164.out 2).trans rfl; have hfz12_0 := blk_frozen BK164.out 0; have hfz12_1 := blk_frozen BK164.out 1; have hfz12_2 := blk_frozen BK164.out 2))
          go_ret
          exact ⟨by first | rfl | (simp [errW_none, errW_some] <;> rfl) | (simp [*, errW_none, errW_some] <;> rfl), by repeat (first | (with_reducible first | exact HB.out | apply below_alloc | apply pw_below_drewN | apply below_drew1 | refine below_set ?_ GE164.out) | exact HB.out)⟩
      · rw [if_neg c4] at H
        have c4b0 : decide (0 ≤ a0_1) = false := decide_eq_false c4
        clear c4
        obtain rfl := Option.some.inj H
        go_enter Tryd.func14, Tryd.ntmps14
        go_wp2_with (first | ((with_reducible refine gate_dst (N := 1) rfl ?_); refine box_event ?hg (N := 1) ?hd (cs := #[.int .i64 a0_0, .int .i64 a0_1, .int .i64 a0_2]) (t := 23) ?hr ?_; (case hd => rfl); (case hg => rfl); (case hr => first | (go_simp; done) | (go_simp; rfl)); intro gb164 hg w13 hbox hb; have n0_ := Aside0.mk (below_step (by repeat (first | (with_reducible first | exact HB.out | apply below_alloc | apply pw_below_drewN | apply below_drew1) | exact HB.out)) hb); have n1_ := Aside0.mk (hbox); have n2_ := Aside0.mk ((by rw [hg]; exact (below_size (by repeat (first | (with_reducible first | exact HB.out | apply below_alloc | apply pw_below_drewN | apply below_drew1) | exact HB.out))) : w.heap.size ≤ gb164)); have n3_ := Aside0.mk ((by rw [hg]; exact (below_size (by repeat (first | (with_reducible first | exact HB.out | apply below_alloc | apply pw_below_drewN | apply below_drew1) | exact HB.out))) : w.heap.size ≤ gb164)); clear HB; have HB := n0_; have BK164 := n1_; have GW164 := n2_; have GE164 := n3_; clear n0_ n1_ n2_ n3_; clear hb hbox hg; have hcz14_0 : w13.cell? ⟨gb164, 0, none⟩ = some (.int .i64 a0_0) := (blk_cell BK164.out 0).trans rfl; have hcz14_1 : w13.cell? ⟨gb164, 1, none⟩ = some (.int .i64 a0_1) := (blk_cell BK164.out 1).trans rfl; have hcz14_2 : w13.cell? ⟨gb164, 2, none⟩ = some (.int .i64 a0_2) := (blk_cell BK164.out 2).trans rfl; have hfz14_0 := blk_frozen BK164.out 0; have hfz14_1 := blk_frozen BK164.out 1; have hfz14_2 := blk_frozen BK164.out 2))
        go_ret
        exact ⟨by first | rfl | (simp [errW_none, errW_some] <;> rfl) | (simp [*, errW_none, errW_some] <;> rfl), by repeat (first | (with_reducible first | exact HB.out | apply below_alloc | apply pw_below_drewN | apply below_drew1 | refine below_set ?_ GE164.out) | exact HB.out)⟩
    · rw [if_neg c3] at H
      have c3b0 : decide (a0_0 ≤ 65536) = false := decide_eq_false c3
      clear c3
      obtain rfl := Option.some.inj H
      go_enter Tryd.func14, Tryd.ntmps14
      go_wp2_with (first | ((with_reducible refine gate_dst (N := 1) rfl ?_); refine box_event ?hg (N := 1) ?hd (cs := #[.int .i64 a0_0, .int .i64 a0_1, .int .i64 a0_2]) (t := 23) ?hr ?_; (case hd => rfl); (case hg => rfl); (case hr => first | (go_simp; done) | (go_simp; rfl)); intro gb164 hg w15 hbox hb; have n0_ := Aside0.mk (below_step (by repeat (first | (with_reducible first | exact HB.out | apply below_alloc | apply pw_below_drewN | apply below_drew1) | exact HB.out)) hb); have n1_ := Aside0.mk (hbox); have n2_ := Aside0.mk ((by rw [hg]; exact (below_size (by repeat (first | (with_reducible first | exact HB.out | apply below_alloc | apply pw_below_drewN | apply below_drew1) | exact HB.out))) : w.heap.size ≤ gb164)); have n3_ := Aside0.mk ((by rw [hg]; exact (below_size (by repeat (first | (with_reducible first | exact HB.out | apply below_alloc | apply pw_below_drewN | apply below_drew1) | exact HB.out))) : w.heap.size ≤ gb164)); clear HB; have HB := n0_; have BK164 := n1_; have GW164 := n2_; have GE164 := n3_; clear n0_ n1_ n2_ n3_; clear hb hbox hg; have hcz16_0 : w15.cell? ⟨gb164, 0, none⟩ = some (.int .i64 a0_0) := (blk_cell BK164.out 0).trans rfl; have hcz16_1 : w15.cell? ⟨gb164, 1, none⟩ = some (.int .i64 a0_1) := (blk_cell BK164.out 1).trans rfl; have hcz16_2 : w15.cell? ⟨gb164, 2, none⟩ = some (.int .i64 a0_2) := (blk_cell BK164.out 2).trans rfl; have hfz16_0 := blk_frozen BK164.out 0; have hfz16_1 := blk_frozen BK164.out 1; have hfz16_2 := blk_frozen BK164.out 2))
      go_ret
      exact ⟨by first | rfl | (simp [errW_none, errW_some] <;> rfl) | (simp [*, errW_none, errW_some] <;> rfl), by repeat (first | (with_reducible first | exact HB.out | apply below_alloc | apply pw_below_drewN | apply below_drew1 | refine below_set ?_ GE164.out) | exact HB.out)⟩
  · rw [if_neg c2] at H
    have c2b0 : decide (0 ≤ a0_0) = false := decide_eq_false c2
    clear c2
    obtain rfl := Option.some.inj H
    go_enter Tryd.func14, Tryd.ntmps14
    go_wp2_with (first | ((with_reducible refine gate_dst (N := 1) rfl ?_); refine box_event ?hg (N := 1) ?hd (cs := #[.int .i64 a0_0, .int .i64 a0_1, .int .i64 a0_2]) (t := 23) ?hr ?_; (case hd => rfl); (case hg => rfl); (case hr => first | (go_simp; done) | (go_simp; rfl)); intro gb164 hg w17 hbox hb; have n0_ := Aside0.mk (below_step (by repeat (first | (with_reducible first | exact HB.out | apply below_alloc | apply pw_below_drewN | apply below_drew1) | exact HB.out)) hb); have n1_ := Aside0.mk (hbox); have n2_ := Aside0.mk ((by rw [hg]; exact (below_size (by repeat (first | (with_reducible first | exact HB.out | apply below_alloc | apply pw_below_drewN | apply below_drew1) | exact HB.out))) : w.heap.size ≤ gb164)); have n3_ := Aside0.mk ((by rw [hg]; exact (below_size (by repeat (first | (with_reducible first | exact HB.out | apply below_alloc | apply pw_below_drewN | apply below_drew1) | exact HB.out))) : w.heap.size ≤ gb164)); clear HB; have HB := n0_; have BK164 := n1_; have GW164 := n2_; have GE164 := n3_; clear n0_ n1_ n2_ n3_; clear hb hbox hg; have hcz18_0 : w17.cell? ⟨gb164, 0, none⟩ = some (.int .i64 a0_0) := (blk_cell BK164.out 0).trans rfl; have hcz18_1 : w17.cell? ⟨gb164, 1, none⟩ = some (.int .i64 a0_1) := (blk_cell BK164.out 1).trans rfl; have hcz18_2 : w17.cell? ⟨gb164, 2, none⟩ = some (.int .i64 a0_2) := (blk_cell BK164.out 2).trans rfl; have hfz18_0 := blk_frozen BK164.out 0; have hfz18_1 := blk_frozen BK164.out 1; have hfz18_2 := blk_frozen BK164.out 2))
    go_ret
    exact ⟨by first | rfl | (simp [errW_none, errW_some] <;> rfl) | (simp [*, errW_none, errW_some] <;> rfl), by repeat (first | (with_reducible first | exact HB.out | apply below_alloc | apply pw_below_drewN | apply below_drew1 | refine below_set ?_ GE164.out) | exact HB.out)⟩
end Go.Proofs.YtmmbpbgcobmifaaDoor.Pr
end
section
namespace Go.Proofs.YtmmbpbgcobmifaaDoor.Pr
end Go.Proofs.YtmmbpbgcobmifaaDoor.Pr
namespace Go.Proofs.YtmmbpbgcobmifaaDoorH
open Go.RowKit Go.Proofs.YtmmbpbgcobmifaaDoorW.PrintWords Go.Proofs.YtmmbpbgcobmifaaDoorW.PrintLast Go.Proofs.YtmmbpbgcobmifaaDoorW.PrintMore Go.Proofs.YtmmbpbgcobmifaaDoor.Pr Go.Proofs.YtmmbpbgcobmifaaDoorM
theorem rd_sameM (l : List Int) (i : Nat) : rd l (i : Int) = l.getD i 0 := by
  unfold rd
  rw [Int.toNat_natCast]
theorem SameM_l0 (l0 l1 : List Int) (he : l0.length = l1.length) (hl : l0.length ≤ 1000000) : ∀ (d i k : Nat), l0.length - i = d → i ≤ l0.length → d < k → catchpitref03_Same.l0 k l0 l1 (i : Int) = some (decide (l0.drop i = l1.drop i))
  | 0, i, k, h1, h2, h3 => by
    obtain ⟨k, rfl⟩ : ∃ m, k = m + 1 := ⟨k - 1, by omega⟩
    rw [catchpitref03_Same.l0, if_neg (by omega), List.drop_eq_nil_of_le (by omega), List.drop_eq_nil_of_le (by omega)]
    rfl
  | d + 1, i, k, h1, h2, h3 => by
    obtain ⟨k, rfl⟩ : ∃ m, k = m + 1 := ⟨k - 1, by omega⟩
    have hw : wrap64 ((i : Int) + 1) = ((i + 1 : Nat) : Int) := by unfold wrap64; omega
    have e0 : l0.drop i = l0.getD i 0 :: l0.drop (i + 1) := by
      rw [List.getD_eq_getElem?_getD, List.getElem?_eq_getElem (by omega)]
      exact List.drop_eq_getElem_cons (by omega)
    have e1 : l1.drop i = l1.getD i 0 :: l1.drop (i + 1) := by
      rw [List.getD_eq_getElem?_getD, List.getElem?_eq_getElem (by omega)]
      exact List.drop_eq_getElem_cons (by omega)
    rw [catchpitref03_Same.l0, if_pos (by omega), if_pos (by omega), if_pos (by omega), rd_sameM, rd_sameM, hw, e0, e1]
    by_cases h : l0.getD i 0 = l1.getD i 0
    · rw [if_pos h, SameM_l0 l0 l1 he hl d (i + 1) k (by omega) (by omega) (by omega), h]
      simp
    · rw [if_neg h, decide_eq_false (fun e => h (List.cons.inj e).1)]
theorem SameM_eq (l0 l1 : List Int) (hl : l0.length ≤ 1000000) (k : Nat) (hk : l0.length < k) : catchpitref03_Same.f k l0 l1 = some (decide (l0 = l1)) := by
  unfold catchpitref03_Same.f
  by_cases he : l0.length = l1.length
  · rw [if_pos (by omega)]
    have := SameM_l0 l0 l1 he hl l0.length 0 k (by omega) (by omega) hk
    rwa [List.drop_zero, List.drop_zero] at this
  · rw [if_neg (by omega), decide_eq_false (fun e => he (by rw [e]))]
theorem Same8_eq (l0 l1 : List Int) (hl : l0.length ≤ 1000000) (k : Nat) (hk : l0.length < k) : catchpitref08_Same.f k l0 l1 = some (decide (l0 = l1)) := by
  unfold catchpitref08_Same.f
  rw [SameM_eq l0 l1 hl k hk]
  rfl
theorem FieldsM_l0 (a : List Fld) (hc : a.length ≤ 1000000) : ∀ d i k : Nat, i ≤ a.length → a.length - i = d → d < k → catchpitref05_Fields.l0 k a a (i : Int) = some true := by
  intro d
  induction d with
  | zero =>
    intro i k h1 h2 h3
    obtain ⟨k, rfl⟩ : ∃ m, k = m + 1 := ⟨k - 1, by omega⟩
    rw [catchpitref05_Fields.l0, if_neg (by omega)]
  | succ d ih =>
    intro i k h1 h2 h3
    obtain ⟨k, rfl⟩ : ∃ m, k = m + 1 := ⟨k - 1, by omega⟩
    rw [catchpitref05_Fields.l0, if_pos (by omega), if_pos (by omega), if_pos (by omega), if_neg (by simp), show wrap64 ((i : Int) + 1) = ((i + 1 : Nat) : Int) by unfold wrap64; omega]
    exact ih (i + 1) k (by omega) (by omega) (by omega)
theorem FieldsM_eq (a : List Fld) (hc : a.length ≤ 1000000) (k : Nat) (hk : a.length < k) : catchpitref05_Fields.f k a a = some true := by
  rw [catchpitref05_Fields.f, if_pos rfl]
  exact FieldsM_l0 a hc a.length 0 k (Nat.zero_le _) (by omega) hk
theorem Right8_eq (a b c : Int) : catchpitref08_Right.f a b c = some (rightL a b c) := by
  unfold catchpitref08_Right.f rightL
  by_cases h1 : a ≥ 0
  · by_cases h2 : a ≤ 65536
    · by_cases h3 : b ≥ 0
      · by_cases h4 : b ≤ 65536
        · by_cases h5 : c ≥ 0
          · simp [h1, h2, h3, h4, h5]
          · simp [h1, h2, h3, h4, h5]
        · simp [h1, h2, h3, h4]
      · simp [h1, h2, h3]
    · simp [h1, h2]
  · simp [h1]
theorem run_dataLen {E : MEnv Fld} : ∀ (r : List Int) (i : Nat) (X : MSt Fld), (mrun E X r i).1.data.length ≤ X.data.length + r.length ∧ (mrun E X r i).1.fields.length ≤ X.fields.length + r.length
  | [], i, X => by simp [mrun]
  | c :: r, i, X => by
    have hline : ∀ (Y x : MSt Fld), mline E Y c = .ok x → x.data.length ≤ Y.data.length + 1 ∧ x.fields.length ≤ Y.fields.length + 1 := by
      intro Y x h
      unfold mline at h
      split at h
      · cases h
      · split at h <;> cases h <;> simp
    have hstep : ∀ (x : MSt Fld), mstep E X c = .ok x → x.data.length ≤ X.data.length + 1 ∧ x.fields.length ≤ X.fields.length + 1 := by
      intro x h
      unfold mstep at h
      repeat' split at h
      all_goals first
        | (cases h; simp; done)
        | (have := hline _ _ h; simpa using this)
        | cases h
    cases h : mstep E X c with
    | error e => rw [run_err h]; simp only [List.length_cons]; omega
    | ok x =>
      have := hstep x h
      by_cases hp : x.place = 11
      · rw [run_fin h hp]; simp only [List.length_cons]; omega
      · rw [run_on h hp]
        have := run_dataLen (E := E) r (i + 1) x
        simp only [List.length_cons]; omega
end Go.Proofs.YtmmbpbgcobmifaaDoorH
end
section
namespace Go.Proofs.YtmmbpbgcobmifaaDoor.Pr
open Go.RowKit Go.Proofs.YtmmbpbgcobmifaaDoorH Go.Proofs.YtmmbpbgcobmifaaDoorW.PrintWords Go.Proofs.YtmmbpbgcobmifaaDoorW.PrintLast Go.Proofs.YtmmbpbgcobmifaaDoorW.PrintMore
attribute [local go_sem] max2_int min2_int max_two min_two max_three min_three max_four min_four   -- for this text's walks alone
set_option linter.unusedVariables false
set_option linter.unusedSimpArgs false
def catchpitref01_Put.f : Nat → Int → Option (ByteArray)
  | 0, _ => none
  | k + 1, a0 => if a0 < 16 then (if 0 ≤ (wrap64 (Int.tmod a0 16)) then (if (wrap64 (Int.tmod a0 16)) ≤ (wrap64 ((wrap64 (Int.tmod a0 16)) + 1)) then (if (wrap64 ((wrap64 (Int.tmod a0 16)) + 1)) ≤ 16 then (some ((⟨#[48, 49, 50, 51, 52, 53, 54, 55, 56, 57, 97, 98, 99, 100, 101, 102]⟩ : ByteArray).extract ((wrap64 (Int.tmod a0 16)) : Int).toNat ((wrap64 ((wrap64 (Int.tmod a0 16)) + 1)) : Int).toNat)) else (none)) else (none)) else (none)) else ((catchpitref01_Put.f k (IntKind.u64.wrap (Int.tdiv a0 16))).bind fun t143 => (if 0 ≤ (wrap64 (Int.tmod a0 16)) then (if (wrap64 (Int.tmod a0 16)) ≤ (wrap64 ((wrap64 (Int.tmod a0 16)) + 1)) then (if (wrap64 ((wrap64 (Int.tmod a0 16)) + 1)) ≤ 16 then (if t143.size + ((⟨#[48, 49, 50, 51, 52, 53, 54, 55, 56, 57, 97, 98, 99, 100, 101, 102]⟩ : ByteArray).extract ((wrap64 (Int.tmod a0 16)) : Int).toNat ((wrap64 ((wrap64 (Int.tmod a0 16)) + 1)) : Int).toNat).size ≤ 9223372036854775807 then (some (t143 ++ ((⟨#[48, 49, 50, 51, 52, 53, 54, 55, 56, 57, 97, 98, 99, 100, 101, 102]⟩ : ByteArray).extract ((wrap64 (Int.tmod a0 16)) : Int).toNat ((wrap64 ((wrap64 (Int.tmod a0 16)) + 1)) : Int).toNat))) else (none)) else (none)) else (none)) else (none)))
theorem catchpitref01_Put.mono_l : ∀ k, (∀ y0, LeO (catchpitref01_Put.f k y0) (catchpitref01_Put.f (k + 1) y0))
  | 0 => fun _ r h => by simp [catchpitref01_Put.f] at h
  | k + 1 => by
    have ih0 := catchpitref01_Put.mono_l k
    · intro y0
      unfold catchpitref01_Put.f
      repeat' first
      | (with_reducible exact ih0 _)
      | (with_reducible exact LeO.refl _)
      | (with_reducible exact LeO.none _)
      | (with_reducible refine LeO.ite ?_ ?_)
      | (with_reducible refine LeO.bind ?_ (fun _ => ?_))
      | exact ih0 _
      | exact LeO.none _
      | refine LeO.ite ?_ ?_
      | refine LeO.bind ?_ (fun _ => ?_)
theorem catchpitref01_Put.mono : ∀ a0 k, LeO (catchpitref01_Put.f k a0) (catchpitref01_Put.f (k + 1) a0) := by
  intro a0 k
  have ih0 := catchpitref01_Put.mono_l k
  exact ih0 a0
def catchpitref01_Put.B5 : List Nat := [0, 1, 3, 0, 0, 0, 32, 120, 255, 511]
end Go.Proofs.YtmmbpbgcobmifaaDoor.Pr
end
section
namespace Go.Proofs.YtmmbpbgcobmifaaDoor.Pr
end Go.Proofs.YtmmbpbgcobmifaaDoor.Pr
namespace Go.Proofs.YtmmbpbgcobmifaaDoorH
open Go.RowKit Go.Proofs.YtmmbpbgcobmifaaDoorW.PrintWords Go.Proofs.YtmmbpbgcobmifaaDoorW.PrintLast Go.Proofs.YtmmbpbgcobmifaaDoorW.PrintMore Go.Proofs.YtmmbpbgcobmifaaDoor.Pr
theorem strOfNums_append (a b : List Int) : strOfNums (a ++ b) = strOfNums a ++ strOfNums b := by
  apply ByteArray.ext
  apply Array.toList_inj.1
  show _ = (strOfNums a).data.toList ++ (strOfNums b).data.toList
  rw [strOfNums_data, strOfNums_data, strOfNums_data, List.map_append]
end Go.Proofs.YtmmbpbgcobmifaaDoorH
end
section
namespace Go.Proofs.YtmmbpbgcobmifaaDoor.Pr
open Go.RowKit Go.Proofs.YtmmbpbgcobmifaaDoorH Go.Proofs.YtmmbpbgcobmifaaDoorW.PrintWords Go.Proofs.YtmmbpbgcobmifaaDoorW.PrintLast Go.Proofs.YtmmbpbgcobmifaaDoorW.PrintMore
attribute [local go_sem] max2_int min2_int max_two min_two max_three min_three max_four min_four   -- for this text's walks alone
set_option linter.unusedVariables false
set_option linter.unusedSimpArgs false
def catchpitref01_Digit.l0 : Nat → Int → ByteArray → ByteArray → Int → Option (Int)
  | 0, _, _, _, _ => none
  | k + 1, x0, x3, x4, x5 => if x5 < 16 then (if 0 ≤ x5 then (if x5 < (x3.size : Int) then (if (bt x3 x5) = x0 then (some x5) else (if x5 < (x4.size : Int) then (if (bt x4 x5) = x0 then (some x5) else (catchpitref01_Digit.l0 k x0 x3 x4 (wrap64 (x5 + 1)))) else (none))) else (none)) else (none)) else (some (-1))
def catchpitref01_Digit.f (k : Nat) (a0 : Int) : Option (Int) := catchpitref01_Digit.l0 k a0 (⟨#[48, 49, 50, 51, 52, 53, 54, 55, 56, 57, 97, 98, 99, 100, 101, 102]⟩ : ByteArray) (⟨#[48, 49, 50, 51, 52, 53, 54, 55, 56, 57, 65, 66, 67, 68, 69, 70]⟩ : ByteArray) 0
theorem catchpitref01_Digit.mono_l : ∀ k, (∀ y0 y1 y2 y3, LeO (catchpitref01_Digit.l0 k y0 y1 y2 y3) (catchpitref01_Digit.l0 (k + 1) y0 y1 y2 y3))
  | 0 => fun _ _ _ _ r h => by simp [catchpitref01_Digit.l0] at h
  | k + 1 => by
    have ih0 := catchpitref01_Digit.mono_l k
    · intro y0 y1 y2 y3
      unfold catchpitref01_Digit.l0
      repeat' first
      | (with_reducible exact ih0 _ _ _ _)
      | (with_reducible exact LeO.refl _)
      | (with_reducible exact LeO.none _)
      | (with_reducible refine LeO.ite ?_ ?_)
      | (with_reducible refine LeO.bind ?_ (fun _ => ?_))
      | exact ih0 _ _ _ _
      | exact LeO.none _
      | refine LeO.ite ?_ ?_
      | refine LeO.bind ?_ (fun _ => ?_)
theorem catchpitref01_Digit.mono : ∀ a0 k, LeO (catchpitref01_Digit.f k a0) (catchpitref01_Digit.f (k + 1) a0) := by
  intro a0 k
  have ih0 := catchpitref01_Digit.mono_l k
  unfold catchpitref01_Digit.f
  repeat' first
      | (with_reducible exact ih0 _ _ _ _)
      | (with_reducible exact LeO.refl _)
      | (with_reducible exact LeO.none _)
      | (with_reducible refine LeO.ite ?_ ?_)
      | (with_reducible refine LeO.bind ?_ (fun _ => ?_))
      | exact ih0 _ _ _ _
      | exact LeO.none _
      | refine LeO.ite ?_ ?_
      | refine LeO.bind ?_ (fun _ => ?_)
set_option maxHeartbeats 8000000 in
set_option maxRecDepth 100000 in
theorem catchpitref01_Digit.calls (k : Nat) (a0 : Int) (r : Int) (w : World) (hG : TabOk w) (h : catchpitref01_Digit.f k a0 = some r) :
    Calls Tryd.prog 64 #[.int .u8 a0] w fun e w' => e = .returned (.int .i64 r) ∧ Drawn0 w w' := by
  have H : (catchpitref01_Digit.l0 k a0 (⟨#[48, 49, 50, 51, 52, 53, 54, 55, 56, 57, 97, 98, 99, 100, 101, 102]⟩ : ByteArray) (⟨#[48, 49, 50, 51, 52, 53, 54, 55, 56, 57, 65, 66, 67, 68, 69, 70]⟩ : ByteArray) 0) = some r := h
  clear h
  have H' := Aside0.mk H
  clear H
  go_enter Tryd.func64, Tryd.ntmps64
  go_wp2
  go_loopg [5] k (fun kq v5 w' => ∃ (x5_1 : Int), v5 = .int .i64 x5_1 ∧ Aside0 (catchpitref01_Digit.l0 kq a0 (⟨#[48, 49, 50, 51, 52, 53, 54, 55, 56, 57, 97, 98, 99, 100, 101, 102]⟩ : ByteArray) (⟨#[48, 49, 50, 51, 52, 53, 54, 55, 56, 57, 65, 66, 67, 68, 69, 70]⟩ : ByteArray) x5_1 = some r) ∧ Aside0 (kq ≤ k) ∧ Drawn0 w w')
  case atStart => exact ⟨(0), (by first | rfl | (simp; done) | (simp [*]; done)), H', ⟨Nat.le_refl _⟩, by repeat (first | exact Drawn0.refl _ | apply Drawn0.step)⟩
  case round =>
    clear H'
    obtain ⟨x5_1, rfl, HA, HK1, ⟨m1, rfl⟩⟩ := hrel
    cases gk with
    | zero => exact absurd HA.out (by simp [catchpitref01_Digit.l0])
    | succ k1 =>
      have H := HA.out
      clear HA
      simp only [catchpitref01_Digit.l0] at H
      by_cases c2 : x5_1 < 16
      · rw [if_pos c2] at H
        have c2b0 : decide (x5_1 < 16) = true := decide_eq_true c2
        clear c2
        by_cases c3 : 0 ≤ x5_1
        · rw [if_pos c3] at H
          have c3b0 : decide (0 ≤ x5_1) = true := decide_eq_true c3
          clear c3
          by_cases c4 : x5_1 < ((⟨#[48, 49, 50, 51, 52, 53, 54, 55, 56, 57, 97, 98, 99, 100, 101, 102]⟩ : ByteArray).size : Int)
          · rw [if_pos c4] at H
            have c4b0 : decide (x5_1 < ((⟨#[48, 49, 50, 51, 52, 53, 54, 55, 56, 57, 97, 98, 99, 100, 101, 102]⟩ : ByteArray).size : Int)) = true := decide_eq_true c4
            clear c4
            by_cases c6 : (bt (⟨#[48, 49, 50, 51, 52, 53, 54, 55, 56, 57, 97, 98, 99, 100, 101, 102]⟩ : ByteArray) x5_1) = a0
            · rw [if_pos c6] at H
              have c6b0 : ((bt (⟨#[48, 49, 50, 51, 52, 53, 54, 55, 56, 57, 97, 98, 99, 100, 101, 102]⟩ : ByteArray) x5_1) == a0) = true := beq_iff_eq.mpr c6
              have c6b1 : ((bt (⟨#[48, 49, 50, 51, 52, 53, 54, 55, 56, 57, 97, 98, 99, 100, 101, 102]⟩ : ByteArray) x5_1) != a0) = false := bne_eq_false_iff_eq.mpr c6
              clear c6
              obtain rfl := Option.some.inj H
              have p5 : 0 ≤ (x5_1 : Int) := of_decide_eq_true (by first | (with_reducible assumption) | assumption)
              have q5 : x5_1 < (16 : Int) := of_decide_eq_true (by first | (with_reducible assumption) | assumption)
              have hx5 := bt_at (⟨#[48, 49, 50, 51, 52, 53, 54, 55, 56, 57, 97, 98, 99, 100, 101, 102]⟩ : ByteArray) x5_1
              replace p5 := eq_true p5
              replace q5 := eq_true q5
              go_wp2
              go_ret
              exact ⟨by first | rfl | (simp; done) | (simp [*]; done), by repeat (first | exact Drawn0.refl _ | apply Drawn0.step)⟩
            · rw [if_neg c6] at H
              have c6b0 : ((bt (⟨#[48, 49, 50, 51, 52, 53, 54, 55, 56, 57, 97, 98, 99, 100, 101, 102]⟩ : ByteArray) x5_1) == a0) = false := beq_eq_false_iff_ne.mpr c6
              have c6b1 : ((bt (⟨#[48, 49, 50, 51, 52, 53, 54, 55, 56, 57, 97, 98, 99, 100, 101, 102]⟩ : ByteArray) x5_1) != a0) = true := bne_iff_ne.mpr c6
              by_cases c7 : x5_1 < ((⟨#[48, 49, 50, 51, 52, 53, 54, 55, 56, 57, 65, 66, 67, 68, 69, 70]⟩ : ByteArray).size : Int)
              · rw [if_pos c7] at H
                have c7b0 : decide (x5_1 < ((⟨#[48, 49, 50, 51, 52, 53, 54, 55, 56, 57, 65, 66, 67, 68, 69, 70]⟩ : ByteArray).size : Int)) = true := decide_eq_true c7
                clear c7
                by_cases c9 : (bt (⟨#[48, 49, 50, 51, 52, 53, 54, 55, 56, 57, 65, 66, 67, 68, 69, 70]⟩ : ByteArray) x5_1) = a0
                · rw [if_pos c9] at H
                  have c9b0 : ((bt (⟨#[48, 49, 50, 51, 52, 53, 54, 55, 56, 57, 65, 66, 67, 68, 69, 70]⟩ : ByteArray) x5_1) == a0) = true := beq_iff_eq.mpr c9
                  have c9b1 : ((bt (⟨#[48, 49, 50, 51, 52, 53, 54, 55, 56, 57, 65, 66, 67, 68, 69, 70]⟩ : ByteArray) x5_1) != a0) = false := bne_eq_false_iff_eq.mpr c9
                  clear c9
                  obtain rfl := Option.some.inj H
                  have p5 : 0 ≤ (x5_1 : Int) := of_decide_eq_true (by first | (with_reducible assumption) | assumption)
                  have q5 : x5_1 < (16 : Int) := of_decide_eq_true (by first | (with_reducible assumption) | assumption)
                  have hx5 := bt_at (⟨#[48, 49, 50, 51, 52, 53, 54, 55, 56, 57, 97, 98, 99, 100, 101, 102]⟩ : ByteArray) x5_1
                  replace p5 := eq_true p5
                  replace q5 := eq_true q5
                  have p8 : 0 ≤ (x5_1 : Int) := of_decide_eq_true (by first | (with_reducible assumption) | assumption)
                  have q8 : x5_1 < (16 : Int) := of_decide_eq_true (by first | (with_reducible assumption) | assumption)
                  have hx8 := bt_at (⟨#[48, 49, 50, 51, 52, 53, 54, 55, 56, 57, 65, 66, 67, 68, 69, 70]⟩ : ByteArray) x5_1
                  replace p8 := eq_true p8
                  replace q8 := eq_true q8
                  go_wp2
                  go_ret
                  exact ⟨by first | rfl | (simp; done) | (simp [*]; done), by repeat (first | exact Drawn0.refl _ | apply Drawn0.step)⟩
                · rw [if_neg c9] at H
                  have c9b0 : ((bt (⟨#[48, 49, 50, 51, 52, 53, 54, 55, 56, 57, 65, 66, 67, 68, 69, 70]⟩ : ByteArray) x5_1) == a0) = false := beq_eq_false_iff_ne.mpr c9
                  have c9b1 : ((bt (⟨#[48, 49, 50, 51, 52, 53, 54, 55, 56, 57, 65, 66, 67, 68, 69, 70]⟩ : ByteArray) x5_1) != a0) = true := bne_iff_ne.mpr c9
                  have H' := Aside0.mk H
                  clear H
                  have p5 : 0 ≤ (x5_1 : Int) := of_decide_eq_true (by first | (with_reducible assumption) | assumption)
                  have q5 : x5_1 < (16 : Int) := of_decide_eq_true (by first | (with_reducible assumption) | assumption)
                  have hx5 := bt_at (⟨#[48, 49, 50, 51, 52, 53, 54, 55, 56, 57, 97, 98, 99, 100, 101, 102]⟩ : ByteArray) x5_1
                  replace p5 := eq_true p5
                  replace q5 := eq_true q5
                  have p8 : 0 ≤ (x5_1 : Int) := of_decide_eq_true (by first | (with_reducible assumption) | assumption)
                  have q8 : x5_1 < (16 : Int) := of_decide_eq_true (by first | (with_reducible assumption) | assumption)
                  have hx8 := bt_at (⟨#[48, 49, 50, 51, 52, 53, 54, 55, 56, 57, 65, 66, 67, 68, 69, 70]⟩ : ByteArray) x5_1
                  replace p8 := eq_true p8
                  replace q8 := eq_true q8
                  go_wp2
                  go_roundg k1
                  case measure => have := HK1.out; omega
                  case rel => exact ⟨(wrap64 (x5_1 + 1)), (by first | rfl | (simp; done) | (simp [*]; done)), H', ⟨by have := HK1.out; omega⟩, by repeat (first | exact Drawn0.refl _ | apply Drawn0.step)⟩
              · rw [if_neg c7] at H
                exact absurd H (by simp)
          · rw [if_neg c4] at H
            exact absurd H (by simp)
        · rw [if_neg c3] at H
          exact absurd H (by simp)
      · rw [if_neg c2] at H
        have c2b0 : decide (x5_1 < 16) = false := decide_eq_false c2
        clear c2
        obtain rfl := Option.some.inj H
        go_wp2
        go_ret
        exact ⟨by first | rfl | (simp; done) | (simp [*]; done), by repeat (first | exact Drawn0.refl _ | apply Drawn0.step)⟩
end Go.Proofs.YtmmbpbgcobmifaaDoor.Pr
end
section
namespace Go.Proofs.YtmmbpbgcobmifaaDoor.Pr
end Go.Proofs.YtmmbpbgcobmifaaDoor.Pr
namespace Go.Proofs.YtmmbpbgcobmifaaDoorH
set_option linter.unusedVariables false
set_option linter.unusedSimpArgs false
open Go Go.RowKit Go.Proofs.YtmmbpbgcobmifaaDoorW.PrintWords Go.Proofs.YtmmbpbgcobmifaaDoorW.PrintLast Go.Proofs.YtmmbpbgcobmifaaDoorW.PrintMore Go.Proofs.YtmmbpbgcobmifaaDoor.Pr Go.Proofs.YtmmbpbgcobmifaaDoorM
abbrev stV (p n co li sz : Int) (tx : ByteArray) (dv fv : Value) : Value := .agg #[.int .i64 p, .int .u64 n, .int .i64 co, .int .i64 li, .int .i64 sz, .string tx, dv, fv]
theorem blk3 (w : World) (a b : Obj) (cs : Array Value) (t : TypeId) : (((w.alloc a).alloc b).alloc (.cells cs t)).heap[w.heap.size + 1 + 1]? = some (.cells cs t (0, 0)) := by
  have := World.alloc_heap_new ((w.alloc a).alloc b) (.cells cs t)
  rwa [World.size_alloc, World.size_alloc] at this
theorem below3 {w w2 : World} (h : Below w.heap.size w w2) (a b c : Obj) : Below w.heap.size w (((w2.alloc a).alloc b).alloc c) := below_alloc (below_alloc (below_alloc h a) b) c
theorem drawn3 {w w4 : World} {a b c : Obj} (h : Drawn0 (((w.alloc a).alloc b).alloc c) w4) : ∃ w2, w4 = (((w2.alloc a).alloc b).alloc c) ∧ w2.heap.size = w.heap.size ∧ Below w.heap.size w w2 := by
  obtain ⟨n, rfl⟩ := h.out
  exact ⟨w.drewN n, rfl, rfl, pw_below_drewN (Below.refl _ _) n⟩
set_option maxHeartbeats 4000000 in
set_option maxRecDepth 100000 in
theorem st8_0a (n li sz : Int) (tx : ByteArray) (A0 A1 : Option Addr) (n0 n1 k0 k1 : Nat) (c l0 l1 l2 : Int) (w : World) (hG : TabOk w) (k : Nat) (dg : Int) (hdig : catchpitref01_Digit.f k c = some dg) (h0 : 0 ≤ dg) :
    Calls Tryd.prog 40 #[stV 0 n 16 li sz tx (.slice A0 n0 k0) (.slice A1 n1 k1), .int .u8 c, .agg #[.int .i64 l0, .int .i64 l1, .int .i64 l2]] w fun e w' => e = .returned (.tuple #[stV 0 n 16 li sz tx (.slice A0 n0 k0) (.slice A1 n1 k1), .int .i64 3]) ∧ Below w.heap.size w w' := by
  have HC_Dig := Aside0.mk (fun (W : World) (h : Below w.heap.size w W) => catchpitref01_Digit.calls k c dg W (hG.below h) hdig)
  clear hG
  go_enter Tryd.func40, Tryd.ntmps40
  go_wp2_with fail
  refine (HC_Dig.out _ (below3 (Below.refl _ _) _ _ _)).mono ?_
  rintro e w4 ⟨rfl, hd4⟩
  obtain ⟨w2, rfl, hs2, hb2⟩ := drawn3 hd4
  clear hd4
  go_wp2
  refine bodyPost_ret (results_ct rfl _ _ (w.heap.size + 1 + 1) 39 _ (0, 0) _ (by rfl) (by rw [← hs2]; exact blk3 w2 _ _ _ _) Tryd.underlying39 rfl (by kernel_rfl)) rfl ⟨rfl, below3 hb2 _ _ _⟩
set_option maxHeartbeats 4000000 in
set_option maxRecDepth 100000 in
theorem st8_0d (n li sz : Int) (tx : ByteArray) (A0 A1 : Option Addr) (n0 n1 k0 k1 : Nat) (c l0 l1 l2 : Int) (w : World) (hG : TabOk w) (k : Nat) (dg : Int) (hdig : catchpitref01_Digit.f k c = some dg) (h0 : ¬ 0 ≤ dg) :
    Calls Tryd.prog 40 #[stV 0 n 0 li sz tx (.slice A0 n0 k0) (.slice A1 n1 k1), .int .u8 c, .agg #[.int .i64 l0, .int .i64 l1, .int .i64 l2]] w fun e w' => e = .returned (.tuple #[stV 0 n 0 li sz tx (.slice A0 n0 k0) (.slice A1 n1 k1), .int .i64 2]) ∧ Below w.heap.size w w' := by
  have HC_Dig := Aside0.mk (fun (W : World) (h : Below w.heap.size w W) => catchpitref01_Digit.calls k c dg W (hG.below h) hdig)
  clear hG
  go_enter Tryd.func40, Tryd.ntmps40
  go_wp2_with fail
  refine (HC_Dig.out _ (below3 (Below.refl _ _) _ _ _)).mono ?_
  rintro e w4 ⟨rfl, hd4⟩
  obtain ⟨w2, rfl, hs2, hb2⟩ := drawn3 hd4
  clear hd4
  go_wp2
  refine bodyPost_ret (results_ct rfl _ _ (w.heap.size + 1 + 1) 39 _ (0, 0) _ (by rfl) (by rw [← hs2]; exact blk3 w2 _ _ _ _) Tryd.underlying39 rfl (by kernel_rfl)) rfl ⟨rfl, below3 hb2 _ _ _⟩
set_option maxHeartbeats 4000000 in
set_option maxRecDepth 100000 in
theorem st8_0e (n co li sz : Int) (tx : ByteArray) (A0 A1 : Option Addr) (n0 n1 k0 k1 : Nat) (c l0 l1 l2 : Int) (w : World) (hG : TabOk w) (k : Nat) (dg : Int) (hdig : catchpitref01_Digit.f k c = some dg) (h0 : ¬ 0 ≤ dg) (hco : (co == 0) = false) (h1 : (c != 59) = true) (h2 : (c != 13) = true) :
    Calls Tryd.prog 40 #[stV 0 n co li sz tx (.slice A0 n0 k0) (.slice A1 n1 k1), .int .u8 c, .agg #[.int .i64 l0, .int .i64 l1, .int .i64 l2]] w fun e w' => e = .returned (.tuple #[stV 0 n co li sz tx (.slice A0 n0 k0) (.slice A1 n1 k1), .int .i64 2]) ∧ Below w.heap.size w w' := by
  have HC_Dig := Aside0.mk (fun (W : World) (h : Below w.heap.size w W) => catchpitref01_Digit.calls k c dg W (hG.below h) hdig)
  clear hG
  go_enter Tryd.func40, Tryd.ntmps40
  go_wp2_with fail
  refine (HC_Dig.out _ (below3 (Below.refl _ _) _ _ _)).mono ?_
  rintro e w4 ⟨rfl, hd4⟩
  obtain ⟨w2, rfl, hs2, hb2⟩ := drawn3 hd4
  clear hd4
  go_wp2
  refine bodyPost_ret (results_ct rfl _ _ (w.heap.size + 1 + 1) 39 _ (0, 0) _ (by rfl) (by rw [← hs2]; exact blk3 w2 _ _ _ _) Tryd.underlying39 rfl (by kernel_rfl)) rfl ⟨rfl, below3 hb2 _ _ _⟩
set_option maxHeartbeats 4000000 in
set_option maxRecDepth 100000 in
theorem st8_0f (n co li sz : Int) (tx : ByteArray) (A0 A1 : Option Addr) (n0 n1 k0 k1 : Nat) (c l0 l1 l2 : Int) (w : World) (hG : TabOk w) (k : Nat) (dg : Int) (hdig : catchpitref01_Digit.f k c = some dg) (h0 : ¬ 0 ≤ dg) (hco : (co == 0) = false) (h1 : (c != 59) = true) (h2 : (c != 13) = false) (h3 : (c == 13) = true) :
    Calls Tryd.prog 40 #[stV 0 n co li sz tx (.slice A0 n0 k0) (.slice A1 n1 k1), .int .u8 c, .agg #[.int .i64 l0, .int .i64 l1, .int .i64 l2]] w fun e w' => e = .returned (.tuple #[stV 2 n co li sz tx (.slice A0 n0 k0) (.slice A1 n1 k1), .int .i64 0]) ∧ Below w.heap.size w w' := by
  have HC_Dig := Aside0.mk (fun (W : World) (h : Below w.heap.size w W) => catchpitref01_Digit.calls k c dg W (hG.below h) hdig)
  clear hG
  go_enter Tryd.func40, Tryd.ntmps40
  go_wp2_with fail
  refine (HC_Dig.out _ (below3 (Below.refl _ _) _ _ _)).mono ?_
  rintro e w4 ⟨rfl, hd4⟩
  obtain ⟨w2, rfl, hs2, hb2⟩ := drawn3 hd4
  clear hd4
  go_wp2
  refine bodyPost_ret (results_ct rfl _ _ (w.heap.size + 1 + 1) 39 _ (0, 0) _ (by rfl) (by rw [← hs2]; exact blk3 w2 _ _ _ _) Tryd.underlying39 rfl (by kernel_rfl)) rfl ⟨rfl, below3 hb2 _ _ _⟩
set_option maxHeartbeats 4000000 in
set_option maxRecDepth 100000 in
theorem st8_0g (n co li sz : Int) (tx : ByteArray) (A0 A1 : Option Addr) (n0 n1 k0 k1 : Nat) (c l0 l1 l2 : Int) (w : World) (hG : TabOk w) (k : Nat) (dg : Int) (hdig : catchpitref01_Digit.f k c = some dg) (h0 : ¬ 0 ≤ dg) (hco : (co == 0) = false) (h1 : (c != 59) = false) (h3 : (c == 13) = false) (h4 : l0 < 1) :
    Calls Tryd.prog 40 #[stV 0 n co li sz tx (.slice A0 n0 k0) (.slice A1 n1 k1), .int .u8 c, .agg #[.int .i64 l0, .int .i64 l1, .int .i64 l2]] w fun e w' => e = .returned (.tuple #[stV 0 n co li sz tx (.slice A0 n0 k0) (.slice A1 n1 k1), .int .i64 5]) ∧ Below w.heap.size w w' := by
  have HC_Dig := Aside0.mk (fun (W : World) (h : Below w.heap.size w W) => catchpitref01_Digit.calls k c dg W (hG.below h) hdig)
  clear hG
  go_enter Tryd.func40, Tryd.ntmps40
  go_wp2_with fail
  refine (HC_Dig.out _ (below3 (Below.refl _ _) _ _ _)).mono ?_
  rintro e w4 ⟨rfl, hd4⟩
  obtain ⟨w2, rfl, hs2, hb2⟩ := drawn3 hd4
  clear hd4
  go_wp2
  refine bodyPost_ret (results_ct rfl _ _ (w.heap.size + 1 + 1) 39 _ (0, 0) _ (by rfl) (by rw [← hs2]; exact blk3 w2 _ _ _ _) Tryd.underlying39 rfl (by kernel_rfl)) rfl ⟨rfl, below3 hb2 _ _ _⟩
set_option maxHeartbeats 4000000 in
set_option maxRecDepth 100000 in
theorem st8_0h (n co li sz : Int) (tx : ByteArray) (A0 A1 : Option Addr) (n0 n1 k0 k1 : Nat) (c l0 l1 l2 : Int) (w : World) (hG : TabOk w) (k : Nat) (dg : Int) (hdig : catchpitref01_Digit.f k c = some dg) (h0 : ¬ 0 ≤ dg) (hco : (co == 0) = false) (h1 : (c != 59) = false) (h3 : (c == 13) = false) (h4 : ¬ l0 < 1) :
    Calls Tryd.prog 40 #[stV 0 n co li sz tx (.slice A0 n0 k0) (.slice A1 n1 k1), .int .u8 c, .agg #[.int .i64 l0, .int .i64 l1, .int .i64 l2]] w fun e w' => e = .returned (.tuple #[stV 1 n 1 li sz tx (.slice A0 n0 k0) (.slice A1 n1 k1), .int .i64 0]) ∧ Below w.heap.size w w' := by
  have HC_Dig := Aside0.mk (fun (W : World) (h : Below w.heap.size w W) => catchpitref01_Digit.calls k c dg W (hG.below h) hdig)
  clear hG
  go_enter Tryd.func40, Tryd.ntmps40
  go_wp2_with fail
  refine (HC_Dig.out _ (below3 (Below.refl _ _) _ _ _)).mono ?_
  rintro e w4 ⟨rfl, hd4⟩
  obtain ⟨w2, rfl, hs2, hb2⟩ := drawn3 hd4
  clear hd4
  go_wp2
  refine bodyPost_ret (results_ct rfl _ _ (w.heap.size + 1 + 1) 39 _ (0, 0) _ (by rfl) (by rw [← hs2]; exact blk3 w2 _ _ _ _) Tryd.underlying39 rfl (by kernel_rfl)) rfl ⟨rfl, below3 hb2 _ _ _⟩
set_option maxHeartbeats 4000000 in
set_option maxRecDepth 100000 in
theorem st8_1a (n co li sz : Int) (tx : ByteArray) (A0 A1 : Option Addr) (n0 n1 k0 k1 : Nat) (c l0 l1 l2 : Int) (w : World) (hG : TabOk w) (h3 : (c == 13) = true) :
    Calls Tryd.prog 40 #[stV 1 n co li sz tx (.slice A0 n0 k0) (.slice A1 n1 k1), .int .u8 c, .agg #[.int .i64 l0, .int .i64 l1, .int .i64 l2]] w fun e w' => e = .returned (.tuple #[stV 2 n co li sz tx (.slice A0 n0 k0) (.slice A1 n1 k1), .int .i64 0]) ∧ Below w.heap.size w w' := by
  clear hG
  go_enter Tryd.func40, Tryd.ntmps40
  go_wp2
  refine bodyPost_ret (results_ct rfl _ _ (w.heap.size + 1 + 1) 39 _ (0, 0) _ (by rfl) (by exact blk3 w _ _ _ _) Tryd.underlying39 rfl (by kernel_rfl)) rfl ⟨rfl, below3 (Below.refl _ _) _ _ _⟩
set_option maxHeartbeats 4000000 in
set_option maxRecDepth 100000 in
theorem st8_1b (n co li sz : Int) (tx : ByteArray) (A0 A1 : Option Addr) (n0 n1 k0 k1 : Nat) (c l0 l1 l2 : Int) (w : World) (hG : TabOk w) (h3 : (c == 13) = false) (hbyt : catchpitref02_Byte.f c = some false) :
    Calls Tryd.prog 40 #[stV 1 n co li sz tx (.slice A0 n0 k0) (.slice A1 n1 k1), .int .u8 c, .agg #[.int .i64 l0, .int .i64 l1, .int .i64 l2]] w fun e w' => e = .returned (.tuple #[stV 1 n co li sz tx (.slice A0 n0 k0) (.slice A1 n1 k1), .int .i64 2]) ∧ Below w.heap.size w w' := by
  have HC_Byt := Aside0.mk (fun (W : World) (h : Below w.heap.size w W) => catchpitref02_Byte.calls c false W (hG.below h) hbyt)
  clear hG
  go_enter Tryd.func40, Tryd.ntmps40
  go_wp2_with fail
  refine (HC_Byt.out _ (below3 (Below.refl _ _) _ _ _)).mono ?_
  rintro e w4 ⟨rfl, hd4⟩
  obtain ⟨w2, rfl, hs2, hb2⟩ := drawn3 hd4
  clear hd4
  go_wp2
  refine bodyPost_ret (results_ct rfl _ _ (w.heap.size + 1 + 1) 39 _ (0, 0) _ (by rfl) (by rw [← hs2]; exact blk3 w2 _ _ _ _) Tryd.underlying39 rfl (by kernel_rfl)) rfl ⟨rfl, below3 hb2 _ _ _⟩
set_option maxHeartbeats 4000000 in
set_option maxRecDepth 100000 in
theorem st8_1c (n co li sz : Int) (tx : ByteArray) (A0 A1 : Option Addr) (n0 n1 k0 k1 : Nat) (c l0 l1 l2 : Int) (w : World) (hG : TabOk w) (h3 : (c == 13) = false) (hbyt : catchpitref02_Byte.f c = some true) (h4 : l0 ≤ co) :
    Calls Tryd.prog 40 #[stV 1 n co li sz tx (.slice A0 n0 k0) (.slice A1 n1 k1), .int .u8 c, .agg #[.int .i64 l0, .int .i64 l1, .int .i64 l2]] w fun e w' => e = .returned (.tuple #[stV 1 n co li sz tx (.slice A0 n0 k0) (.slice A1 n1 k1), .int .i64 5]) ∧ Below w.heap.size w w' := by
  have HC_Byt := Aside0.mk (fun (W : World) (h : Below w.heap.size w W) => catchpitref02_Byte.calls c true W (hG.below h) hbyt)
  clear hG
  go_enter Tryd.func40, Tryd.ntmps40
  go_wp2_with fail
  refine (HC_Byt.out _ (below3 (Below.refl _ _) _ _ _)).mono ?_
  rintro e w4 ⟨rfl, hd4⟩
  obtain ⟨w2, rfl, hs2, hb2⟩ := drawn3 hd4
  clear hd4
  go_wp2
  refine bodyPost_ret (results_ct rfl _ _ (w.heap.size + 1 + 1) 39 _ (0, 0) _ (by rfl) (by rw [← hs2]; exact blk3 w2 _ _ _ _) Tryd.underlying39 rfl (by kernel_rfl)) rfl ⟨rfl, below3 hb2 _ _ _⟩
set_option maxHeartbeats 4000000 in
set_option maxRecDepth 100000 in
theorem st8_1d (n co li sz : Int) (tx : ByteArray) (A0 A1 : Option Addr) (n0 n1 k0 k1 : Nat) (c l0 l1 l2 : Int) (w : World) (hG : TabOk w) (h3 : (c == 13) = false) (hbyt : catchpitref02_Byte.f c = some true) (h4 : ¬ l0 ≤ co) (hw : IntKind.i64.wrap (co + 1) = co + 1) :
    Calls Tryd.prog 40 #[stV 1 n co li sz tx (.slice A0 n0 k0) (.slice A1 n1 k1), .int .u8 c, .agg #[.int .i64 l0, .int .i64 l1, .int .i64 l2]] w fun e w' => e = .returned (.tuple #[stV 1 n (co + 1) li sz tx (.slice A0 n0 k0) (.slice A1 n1 k1), .int .i64 0]) ∧ Below w.heap.size w w' := by
  have HC_Byt := Aside0.mk (fun (W : World) (h : Below w.heap.size w W) => catchpitref02_Byte.calls c true W (hG.below h) hbyt)
  clear hG
  go_enter Tryd.func40, Tryd.ntmps40
  go_wp2_with fail
  refine (HC_Byt.out _ (below3 (Below.refl _ _) _ _ _)).mono ?_
  rintro e w4 ⟨rfl, hd4⟩
  obtain ⟨w2, rfl, hs2, hb2⟩ := drawn3 hd4
  clear hd4
  go_wp2
  refine bodyPost_ret (results_ct rfl _ _ (w.heap.size + 1 + 1) 39 _ (0, 0) _ (by rfl) (by rw [← hs2]; exact blk3 w2 _ _ _ _) Tryd.underlying39 rfl (by kernel_rfl)) rfl ⟨rfl, below3 hb2 _ _ _⟩
set_option maxHeartbeats 4000000 in
set_option maxRecDepth 100000 in
theorem st8_2a (n co li sz : Int) (tx : ByteArray) (A0 A1 : Option Addr) (n0 n1 k0 k1 : Nat) (c l0 l1 l2 : Int) (w : World) (hG : TabOk w) (h3 : (c != 10) = true) :
    Calls Tryd.prog 40 #[stV 2 n co li sz tx (.slice A0 n0 k0) (.slice A1 n1 k1), .int .u8 c, .agg #[.int .i64 l0, .int .i64 l1, .int .i64 l2]] w fun e w' => e = .returned (.tuple #[stV 2 n co li sz tx (.slice A0 n0 k0) (.slice A1 n1 k1), .int .i64 2]) ∧ Below w.heap.size w w' := by
  clear hG
  go_enter Tryd.func40, Tryd.ntmps40
  go_wp2
  refine bodyPost_ret (results_ct rfl _ _ (w.heap.size + 1 + 1) 39 _ (0, 0) _ (by rfl) (by exact blk3 w _ _ _ _) Tryd.underlying39 rfl (by kernel_rfl)) rfl ⟨rfl, below3 (Below.refl _ _) _ _ _⟩
set_option maxHeartbeats 4000000 in
set_option maxRecDepth 100000 in
theorem st8_5a (n co li sz : Int) (tx : ByteArray) (A0 A1 : Option Addr) (n0 n1 k0 k1 : Nat) (c l0 l1 l2 : Int) (w : World) (hG : TabOk w) (h3 : (c != 10) = true) :
    Calls Tryd.prog 40 #[stV 5 n co li sz tx (.slice A0 n0 k0) (.slice A1 n1 k1), .int .u8 c, .agg #[.int .i64 l0, .int .i64 l1, .int .i64 l2]] w fun e w' => e = .returned (.tuple #[stV 5 n co li sz tx (.slice A0 n0 k0) (.slice A1 n1 k1), .int .i64 2]) ∧ Below w.heap.size w w' := by
  clear hG
  go_enter Tryd.func40, Tryd.ntmps40
  go_wp2
  refine bodyPost_ret (results_ct rfl _ _ (w.heap.size + 1 + 1) 39 _ (0, 0) _ (by rfl) (by exact blk3 w _ _ _ _) Tryd.underlying39 rfl (by kernel_rfl)) rfl ⟨rfl, below3 (Below.refl _ _) _ _ _⟩
set_option maxHeartbeats 4000000 in
set_option maxRecDepth 100000 in
theorem st8_9a (n co li sz : Int) (tx : ByteArray) (A0 A1 : Option Addr) (n0 n1 k0 k1 : Nat) (c l0 l1 l2 : Int) (w : World) (hG : TabOk w) (h3 : (c != 10) = true) :
    Calls Tryd.prog 40 #[stV 9 n co li sz tx (.slice A0 n0 k0) (.slice A1 n1 k1), .int .u8 c, .agg #[.int .i64 l0, .int .i64 l1, .int .i64 l2]] w fun e w' => e = .returned (.tuple #[stV 9 n co li sz tx (.slice A0 n0 k0) (.slice A1 n1 k1), .int .i64 2]) ∧ Below w.heap.size w w' := by
  clear hG
  go_enter Tryd.func40, Tryd.ntmps40
  go_wp2
  refine bodyPost_ret (results_ct rfl _ _ (w.heap.size + 1 + 1) 39 _ (0, 0) _ (by rfl) (by exact blk3 w _ _ _ _) Tryd.underlying39 rfl (by kernel_rfl)) rfl ⟨rfl, below3 (Below.refl _ _) _ _ _⟩
set_option maxHeartbeats 4000000 in
set_option maxRecDepth 100000 in
theorem st8_10a (n co li sz : Int) (tx : ByteArray) (A0 A1 : Option Addr) (n0 n1 k0 k1 : Nat) (c l0 l1 l2 : Int) (w : World) (hG : TabOk w) (h3 : (c != 10) = true) :
    Calls Tryd.prog 40 #[stV 10 n co li sz tx (.slice A0 n0 k0) (.slice A1 n1 k1), .int .u8 c, .agg #[.int .i64 l0, .int .i64 l1, .int .i64 l2]] w fun e w' => e = .returned (.tuple #[stV 10 n co li sz tx (.slice A0 n0 k0) (.slice A1 n1 k1), .int .i64 2]) ∧ Below w.heap.size w w' := by
  clear hG
  go_enter Tryd.func40, Tryd.ntmps40
  go_wp2
  refine bodyPost_ret (results_ct rfl _ _ (w.heap.size + 1 + 1) 39 _ (0, 0) _ (by rfl) (by exact blk3 w _ _ _ _) Tryd.underlying39 rfl (by kernel_rfl)) rfl ⟨rfl, below3 (Below.refl _ _) _ _ _⟩
set_option maxHeartbeats 4000000 in
set_option maxRecDepth 100000 in
theorem st8_2b (n co li sz : Int) (tx : ByteArray) (A0 A1 : Option Addr) (n0 n1 k0 k1 : Nat) (c l0 l1 l2 : Int) (w : World) (hG : TabOk w) (h3 : (c != 10) = false) (h4 : 0 < n) :
    Calls Tryd.prog 40 #[stV 2 n co li sz tx (.slice A0 n0 k0) (.slice A1 n1 k1), .int .u8 c, .agg #[.int .i64 l0, .int .i64 l1, .int .i64 l2]] w fun e w' => e = .returned (.tuple #[stV 3 n co li sz tx (.slice A0 n0 k0) (.slice A1 n1 k1), .int .i64 0]) ∧ Below w.heap.size w w' := by
  clear hG
  go_enter Tryd.func40, Tryd.ntmps40
  go_wp2
  refine bodyPost_ret (results_ct rfl _ _ (w.heap.size + 1 + 1) 39 _ (0, 0) _ (by rfl) (by exact blk3 w _ _ _ _) Tryd.underlying39 rfl (by kernel_rfl)) rfl ⟨rfl, below3 (Below.refl _ _) _ _ _⟩
set_option maxHeartbeats 4000000 in
set_option maxRecDepth 100000 in
theorem st8_2c (co li sz : Int) (tx : ByteArray) (A0 A1 : Option Addr) (n0 n1 k0 k1 : Nat) (c l0 l1 l2 : Int) (w : World) (hG : TabOk w) (h3 : (c != 10) = false) :
    Calls Tryd.prog 40 #[stV 2 0 co li sz tx (.slice A0 n0 k0) (.slice A1 n1 k1), .int .u8 c, .agg #[.int .i64 l0, .int .i64 l1, .int .i64 l2]] w fun e w' => e = .returned (.tuple #[stV 6 0 co li sz tx (.slice A0 n0 k0) (.slice A1 n1 k1), .int .i64 0]) ∧ Below w.heap.size w w' := by
  clear hG
  go_enter Tryd.func40, Tryd.ntmps40
  go_wp2
  refine bodyPost_ret (results_ct rfl _ _ (w.heap.size + 1 + 1) 39 _ (0, 0) _ (by rfl) (by exact blk3 w _ _ _ _) Tryd.underlying39 rfl (by kernel_rfl)) rfl ⟨rfl, below3 (Below.refl _ _) _ _ _⟩
set_option maxHeartbeats 4000000 in
set_option maxRecDepth 100000 in
theorem st8_5b (n co li sz : Int) (tx : ByteArray) (A0 A1 : Option Addr) (n0 n1 k0 k1 : Nat) (c l0 l1 l2 : Int) (w : World) (hG : TabOk w) (h3 : (c != 10) = false) :
    Calls Tryd.prog 40 #[stV 5 n co li sz tx (.slice A0 n0 k0) (.slice A1 n1 k1), .int .u8 c, .agg #[.int .i64 l0, .int .i64 l1, .int .i64 l2]] w fun e w' => e = .returned (.tuple #[stV 0 n 0 li sz tx (.slice A0 n0 k0) (.slice A1 n1 k1), .int .i64 0]) ∧ Below w.heap.size w w' := by
  clear hG
  go_enter Tryd.func40, Tryd.ntmps40
  go_wp2
  refine bodyPost_ret (results_ct rfl _ _ (w.heap.size + 1 + 1) 39 _ (0, 0) _ (by rfl) (by exact blk3 w _ _ _ _) Tryd.underlying39 rfl (by kernel_rfl)) rfl ⟨rfl, below3 (Below.refl _ _) _ _ _⟩
set_option maxHeartbeats 4000000 in
set_option maxRecDepth 100000 in
theorem st8_10b (n co li sz : Int) (tx : ByteArray) (A0 A1 : Option Addr) (n0 n1 k0 k1 : Nat) (c l0 l1 l2 : Int) (w : World) (hG : TabOk w) (h3 : (c != 10) = false) :
    Calls Tryd.prog 40 #[stV 10 n co li sz tx (.slice A0 n0 k0) (.slice A1 n1 k1), .int .u8 c, .agg #[.int .i64 l0, .int .i64 l1, .int .i64 l2]] w fun e w' => e = .returned (.tuple #[stV 11 n co li sz tx (.slice A0 n0 k0) (.slice A1 n1 k1), .int .i64 0]) ∧ Below w.heap.size w w' := by
  clear hG
  go_enter Tryd.func40, Tryd.ntmps40
  go_wp2
  refine bodyPost_ret (results_ct rfl _ _ (w.heap.size + 1 + 1) 39 _ (0, 0) _ (by rfl) (by exact blk3 w _ _ _ _) Tryd.underlying39 rfl (by kernel_rfl)) rfl ⟨rfl, below3 (Below.refl _ _) _ _ _⟩
set_option maxHeartbeats 4000000 in
set_option maxRecDepth 100000 in
theorem st8_4a (n co li sz : Int) (tx : ByteArray) (A0 A1 : Option Addr) (n0 n1 k0 k1 : Nat) (c l0 l1 l2 : Int) (w : World) (hG : TabOk w) (h3 : (c != 13) = true) :
    Calls Tryd.prog 40 #[stV 4 n co li sz tx (.slice A0 n0 k0) (.slice A1 n1 k1), .int .u8 c, .agg #[.int .i64 l0, .int .i64 l1, .int .i64 l2]] w fun e w' => e = .returned (.tuple #[stV 4 n co li sz tx (.slice A0 n0 k0) (.slice A1 n1 k1), .int .i64 2]) ∧ Below w.heap.size w w' := by
  clear hG
  go_enter Tryd.func40, Tryd.ntmps40
  go_wp2
  refine bodyPost_ret (results_ct rfl _ _ (w.heap.size + 1 + 1) 39 _ (0, 0) _ (by rfl) (by exact blk3 w _ _ _ _) Tryd.underlying39 rfl (by kernel_rfl)) rfl ⟨rfl, below3 (Below.refl _ _) _ _ _⟩
set_option maxHeartbeats 4000000 in
set_option maxRecDepth 100000 in
theorem st8_4b (n co li sz : Int) (tx : ByteArray) (A0 A1 : Option Addr) (n0 n1 k0 k1 : Nat) (c l0 l1 l2 : Int) (w : World) (hG : TabOk w) (h3 : (c != 13) = false) :
    Calls Tryd.prog 40 #[stV 4 n co li sz tx (.slice A0 n0 k0) (.slice A1 n1 k1), .int .u8 c, .agg #[.int .i64 l0, .int .i64 l1, .int .i64 l2]] w fun e w' => e = .returned (.tuple #[stV 5 n co li sz tx (.slice A0 n0 k0) (.slice A1 n1 k1), .int .i64 0]) ∧ Below w.heap.size w w' := by
  clear hG
  go_enter Tryd.func40, Tryd.ntmps40
  go_wp2
  refine bodyPost_ret (results_ct rfl _ _ (w.heap.size + 1 + 1) 39 _ (0, 0) _ (by rfl) (by exact blk3 w _ _ _ _) Tryd.underlying39 rfl (by kernel_rfl)) rfl ⟨rfl, below3 (Below.refl _ _) _ _ _⟩
set_option maxHeartbeats 4000000 in
set_option maxRecDepth 100000 in
theorem st8_6a (n co li sz : Int) (tx : ByteArray) (A0 A1 : Option Addr) (n0 n1 k0 k1 : Nat) (c l0 l1 l2 : Int) (w : World) (hG : TabOk w) (h3 : (c == 13) = true) :
    Calls Tryd.prog 40 #[stV 6 n co li sz tx (.slice A0 n0 k0) (.slice A1 n1 k1), .int .u8 c, .agg #[.int .i64 l0, .int .i64 l1, .int .i64 l2]] w fun e w' => e = .returned (.tuple #[stV 10 n co li sz tx (.slice A0 n0 k0) (.slice A1 n1 k1), .int .i64 0]) ∧ Below w.heap.size w w' := by
  clear hG
  go_enter Tryd.func40, Tryd.ntmps40
  go_wp2
  refine bodyPost_ret (results_ct rfl _ _ (w.heap.size + 1 + 1) 39 _ (0, 0) _ (by rfl) (by exact blk3 w _ _ _ _) Tryd.underlying39 rfl (by kernel_rfl)) rfl ⟨rfl, below3 (Below.refl _ _) _ _ _⟩
set_option maxHeartbeats 4000000 in
set_option maxRecDepth 100000 in
theorem st8_8b (n co li sz : Int) (tx : ByteArray) (A0 A1 : Option Addr) (n0 n1 k0 k1 : Nat) (c l0 l1 l2 : Int) (w : World) (hG : TabOk w) (h3 : (c == 13) = false) (hbyt : catchpitref02_Byte.f c = some false) :
    Calls Tryd.prog 40 #[stV 8 n co li sz tx (.slice A0 n0 k0) (.slice A1 n1 k1), .int .u8 c, .agg #[.int .i64 l0, .int .i64 l1, .int .i64 l2]] w fun e w' => e = .returned (.tuple #[stV 8 n co li sz tx (.slice A0 n0 k0) (.slice A1 n1 k1), .int .i64 2]) ∧ Below w.heap.size w w' := by
  have HC_Byt := Aside0.mk (fun (W : World) (h : Below w.heap.size w W) => catchpitref02_Byte.calls c false W (hG.below h) hbyt)
  clear hG
  go_enter Tryd.func40, Tryd.ntmps40
  go_wp2_with fail
  refine (HC_Byt.out _ (below3 (Below.refl _ _) _ _ _)).mono ?_
  rintro e w4 ⟨rfl, hd4⟩
  obtain ⟨w2, rfl, hs2, hb2⟩ := drawn3 hd4
  clear hd4
  go_wp2
  refine bodyPost_ret (results_ct rfl _ _ (w.heap.size + 1 + 1) 39 _ (0, 0) _ (by rfl) (by rw [← hs2]; exact blk3 w2 _ _ _ _) Tryd.underlying39 rfl (by kernel_rfl)) rfl ⟨rfl, below3 hb2 _ _ _⟩
end Go.Proofs.YtmmbpbgcobmifaaDoorH
end
section
namespace Go.Proofs.YtmmbpbgcobmifaaDoor.Pr
end Go.Proofs.YtmmbpbgcobmifaaDoor.Pr
namespace Go.Proofs.YtmmbpbgcobmifaaDoorH
set_option linter.unusedVariables false
set_option linter.unusedSimpArgs false
open Go Go.RowKit Go.Proofs.YtmmbpbgcobmifaaDoorW.PrintWords Go.Proofs.YtmmbpbgcobmifaaDoorW.PrintLast Go.Proofs.YtmmbpbgcobmifaaDoorW.PrintMore Go.Proofs.YtmmbpbgcobmifaaDoor.Pr Go.Proofs.YtmmbpbgcobmifaaDoorM
theorem drawn4 {w w4 : World} {a b c d : Obj} (h : Drawn0 ((((w.alloc a).alloc b).alloc c).alloc d) w4) : ∃ w2, w4 = ((((w2.alloc a).alloc b).alloc c).alloc d) ∧ w2.heap.size = w.heap.size ∧ Below w.heap.size w w2 := by
  obtain ⟨n, rfl⟩ := h.out
  exact ⟨w.drewN n, rfl, rfl, pw_below_drewN (Below.refl _ _) n⟩
theorem blk4 (w : World) (a b d : Obj) (cs : Array Value) (t : TypeId) : ((((w.alloc a).alloc b).alloc (.cells cs t)).alloc d).heap[w.heap.size + 1 + 1]? = some (.cells cs t (0, 0)) := alloc_keep _ (blk3 w a b cs t)
theorem one_byte (W : World) (c : Int) : (convert 24 9 (.slice (some ⟨W.heap.size, 0, none⟩) 1 1)).run Tryd.prog (W.alloc (.cells #[.int .u8 c] 5)) = .ok (.string (strOfNums [c])) (W.alloc (.cells #[.int .u8 c] 5)) := by
  refine Kd.C_string (xs := [c]) (c := 1) Tryd.underlying24 Tryd.underlying5 Tryd.underlying9 ⟨rfl, by decide, fun _ => ⟨_, rfl, fun j p hj => ?_⟩⟩
  match j with
  | 0 =>
    have e : c = p := by simpa using hj
    subst e
    refine ⟨[.int .u8 c], rfl, rfl, fun i u hu => ?_⟩
    match i with
    | 0 =>
      have e : Value.int .u8 c = u := by simpa using hu
      subst e
      exact World.news_of_block (World.alloc_heap_new W _) 0 _ rfl
    | i + 1 => simp at hu
  | j + 1 => simp at hj
theorem one_byte4 (w : World) (x : Int) (a b d : Obj) : (convert 24 9 (.slice (some ⟨w.heap.size + 1 + 1 + 1, 0, none⟩) 1 1)).run Tryd.prog ((((w.alloc a).alloc b).alloc d).alloc (.cells #[.int .u8 x] 5)) = .ok (.string (strOfNums [x])) ((((w.alloc a).alloc b).alloc d).alloc (.cells #[.int .u8 x] 5)) := by
  have := one_byte (((w.alloc a).alloc b).alloc d) x
  rwa [World.size_alloc, World.size_alloc, World.size_alloc] at this
set_option maxHeartbeats 4000000 in
set_option maxRecDepth 100000 in
theorem st8_0b (n co li sz : Int) (tx : ByteArray) (A0 A1 : Option Addr) (n0 n1 k0 k1 : Nat) (c l0 l1 l2 : Int) (w : World) (hG : TabOk w) (k : Nat) (dg : Int) (hdig : catchpitref01_Digit.f k c = some dg) (h0 : 0 ≤ dg) (hco : (co == 16) = false) (q : Int) (hq0 : IntKind.u64.wrap dg = dg) (hq1 : IntKind.u64.wrap (4611686018427387903 - dg) = 4611686018427387903 - dg) (hq2 : IntKind.u64.wrap (Int.tdiv (4611686018427387903 - dg) 16) = q) (hq3 : q < n) :
    Calls Tryd.prog 40 #[stV 0 n co li sz tx (.slice A0 n0 k0) (.slice A1 n1 k1), .int .u8 c, .agg #[.int .i64 l0, .int .i64 l1, .int .i64 l2]] w fun e w' => e = .returned (.tuple #[stV 0 n co li sz tx (.slice A0 n0 k0) (.slice A1 n1 k1), .int .i64 3]) ∧ Below w.heap.size w w' := by
  have HC_Dig := Aside0.mk (fun (W : World) (h : Below w.heap.size w W) => catchpitref01_Digit.calls k c dg W (hG.below h) hdig)
  clear hG
  go_enter Tryd.func40, Tryd.ntmps40
  go_wp2_with fail
  refine (HC_Dig.out _ (below3 (Below.refl _ _) _ _ _)).mono ?_
  rintro e w4 ⟨rfl, hd4⟩
  obtain ⟨w2, rfl, hs2, hb2⟩ := drawn3 hd4
  clear hd4
  go_wp2
  refine bodyPost_ret (results_ct rfl _ _ (w.heap.size + 1 + 1) 39 _ (0, 0) _ (by rfl) (by rw [← hs2]; exact blk3 w2 _ _ _ _) Tryd.underlying39 rfl (by kernel_rfl)) rfl ⟨rfl, below3 hb2 _ _ _⟩
set_option maxHeartbeats 4000000 in
set_option maxRecDepth 100000 in
theorem st8_0c (n co li sz : Int) (tx : ByteArray) (A0 A1 : Option Addr) (n0 n1 k0 k1 : Nat) (c l0 l1 l2 : Int) (w : World) (hG : TabOk w) (k : Nat) (dg : Int) (hdig : catchpitref01_Digit.f k c = some dg) (h0 : 0 ≤ dg) (hco : (co == 16) = false) (q : Int) (hq0 : IntKind.u64.wrap dg = dg) (hq1 : IntKind.u64.wrap (4611686018427387903 - dg) = 4611686018427387903 - dg) (hq2 : IntKind.u64.wrap (Int.tdiv (4611686018427387903 - dg) 16) = q) (hq3 : ¬ q < n) (hm0 : IntKind.u64.wrap (16 * n) = 16 * n) (hm1 : IntKind.u64.wrap (16 * n + dg) = 16 * n + dg) (hw : IntKind.i64.wrap (co + 1) = co + 1) :
    Calls Tryd.prog 40 #[stV 0 n co li sz tx (.slice A0 n0 k0) (.slice A1 n1 k1), .int .u8 c, .agg #[.int .i64 l0, .int .i64 l1, .int .i64 l2]] w fun e w' => e = .returned (.tuple #[stV 0 (16 * n + dg) (co + 1) li sz tx (.slice A0 n0 k0) (.slice A1 n1 k1), .int .i64 0]) ∧ Below w.heap.size w w' := by
  have HC_Dig := Aside0.mk (fun (W : World) (h : Below w.heap.size w W) => catchpitref01_Digit.calls k c dg W (hG.below h) hdig)
  clear hG
  go_enter Tryd.func40, Tryd.ntmps40
  go_wp2_with fail
  refine (HC_Dig.out _ (below3 (Below.refl _ _) _ _ _)).mono ?_
  rintro e w4 ⟨rfl, hd4⟩
  obtain ⟨w2, rfl, hs2, hb2⟩ := drawn3 hd4
  clear hd4
  go_wp2
  refine bodyPost_ret (results_ct rfl _ _ (w.heap.size + 1 + 1) 39 _ (0, 0) _ (by rfl) (by rw [← hs2]; exact blk3 w2 _ _ _ _) Tryd.underlying39 rfl (by kernel_rfl)) rfl ⟨rfl, below3 hb2 _ _ _⟩
set_option maxHeartbeats 4000000 in
set_option maxRecDepth 100000 in
theorem st8_7b (n co li sz : Int) (tx : ByteArray) (A0 A1 : Option Addr) (n0 n1 k0 k1 : Nat) (c l0 l1 l2 : Int) (w : World) (hG : TabOk w) (h3 : (c == 58) = false) (k : Nat) (htok : catchpitref02_Token.f k (strOfNums [c]) = some false) :
    Calls Tryd.prog 40 #[stV 7 n co li sz tx (.slice A0 n0 k0) (.slice A1 n1 k1), .int .u8 c, .agg #[.int .i64 l0, .int .i64 l1, .int .i64 l2]] w fun e w' => e = .returned (.tuple #[stV 7 n co li sz tx (.slice A0 n0 k0) (.slice A1 n1 k1), .int .i64 2]) ∧ Below w.heap.size w w' := by
  have HC_Tok := Aside0.mk (fun (W : World) (h : Below w.heap.size w W) => catchpitref02_Token.calls k (strOfNums [c]) false W (hG.below h) htok)
  clear hG
  go_enter Tryd.func40, Tryd.ntmps40
  have hcv := one_byte4 w c
  go_wp2_with fail
  refine (HC_Tok.out _ (below_alloc (below3 (Below.refl _ _) _ _ _) _)).mono ?_
  rintro e w4 ⟨rfl, hd4⟩
  obtain ⟨w2, rfl, hs2, hb2⟩ := drawn4 hd4
  clear hd4
  go_wp2
  refine bodyPost_ret (results_ct rfl _ _ (w.heap.size + 1 + 1) 39 _ (0, 0) _ (by rfl) (by rw [← hs2]; exact blk4 w2 _ _ _ _ _) Tryd.underlying39 rfl (by kernel_rfl)) rfl ⟨rfl, below_alloc (below3 hb2 _ _ _) _⟩
set_option maxHeartbeats 4000000 in
set_option maxRecDepth 100000 in
theorem st8_6b (n co li sz : Int) (tx : ByteArray) (A0 A1 : Option Addr) (n0 n1 k0 k1 : Nat) (c l0 l1 l2 : Int) (w : World) (hG : TabOk w) (h3 : (c == 13) = false) (k : Nat) (htok : catchpitref02_Token.f k (strOfNums [c]) = some false) :
    Calls Tryd.prog 40 #[stV 6 n co li sz tx (.slice A0 n0 k0) (.slice A1 n1 k1), .int .u8 c, .agg #[.int .i64 l0, .int .i64 l1, .int .i64 l2]] w fun e w' => e = .returned (.tuple #[stV 6 n co li sz tx (.slice A0 n0 k0) (.slice A1 n1 k1), .int .i64 2]) ∧ Below w.heap.size w w' := by
  have HC_Tok := Aside0.mk (fun (W : World) (h : Below w.heap.size w W) => catchpitref02_Token.calls k (strOfNums [c]) false W (hG.below h) htok)
  clear hG
  go_enter Tryd.func40, Tryd.ntmps40
  have hcv := one_byte4 w c
  go_wp2_with fail
  refine (HC_Tok.out _ (below_alloc (below3 (Below.refl _ _) _ _ _) _)).mono ?_
  rintro e w4 ⟨rfl, hd4⟩
  obtain ⟨w2, rfl, hs2, hb2⟩ := drawn4 hd4
  clear hd4
  go_wp2
  refine bodyPost_ret (results_ct rfl _ _ (w.heap.size + 1 + 1) 39 _ (0, 0) _ (by rfl) (by rw [← hs2]; exact blk4 w2 _ _ _ _ _) Tryd.underlying39 rfl (by kernel_rfl)) rfl ⟨rfl, below_alloc (below3 hb2 _ _ _) _⟩
set_option maxHeartbeats 4000000 in
set_option maxRecDepth 100000 in
theorem st8_6c (n co li sz : Int) (tx : ByteArray) (A0 A1 : Option Addr) (n0 n1 k0 k1 : Nat) (c l0 l1 l2 : Int) (w : World) (hG : TabOk w) (h3 : (c == 13) = false) (h4 : l1 ≤ li) (k : Nat) (htok : catchpitref02_Token.f k (strOfNums [c]) = some true) :
    Calls Tryd.prog 40 #[stV 6 n co li sz tx (.slice A0 n0 k0) (.slice A1 n1 k1), .int .u8 c, .agg #[.int .i64 l0, .int .i64 l1, .int .i64 l2]] w fun e w' => e = .returned (.tuple #[stV 6 n co li sz tx (.slice A0 n0 k0) (.slice A1 n1 k1), .int .i64 5]) ∧ Below w.heap.size w w' := by
  have HC_Tok := Aside0.mk (fun (W : World) (h : Below w.heap.size w W) => catchpitref02_Token.calls k (strOfNums [c]) true W (hG.below h) htok)
  clear hG
  go_enter Tryd.func40, Tryd.ntmps40
  have hcv := one_byte4 w c
  go_wp2_with fail
  refine (HC_Tok.out _ (below_alloc (below3 (Below.refl _ _) _ _ _) _)).mono ?_
  rintro e w4 ⟨rfl, hd4⟩
  obtain ⟨w2, rfl, hs2, hb2⟩ := drawn4 hd4
  clear hd4
  go_wp2
  refine bodyPost_ret (results_ct rfl _ _ (w.heap.size + 1 + 1) 39 _ (0, 0) _ (by rfl) (by rw [← hs2]; exact blk4 w2 _ _ _ _ _) Tryd.underlying39 rfl (by kernel_rfl)) rfl ⟨rfl, below_alloc (below3 hb2 _ _ _) _⟩
end Go.Proofs.YtmmbpbgcobmifaaDoorH
end
section
namespace Go.Proofs.YtmmbpbgcobmifaaDoor.Pr
end Go.Proofs.YtmmbpbgcobmifaaDoor.Pr
namespace Go.Proofs.YtmmbpbgcobmifaaDoorH
set_option linter.unusedVariables false
set_option linter.unusedSimpArgs false
open Go Go.RowKit Go.Proofs.YtmmbpbgcobmifaaDoorW.PrintWords Go.Proofs.YtmmbpbgcobmifaaDoorW.PrintLast Go.Proofs.YtmmbpbgcobmifaaDoorW.PrintMore Go.Proofs.YtmmbpbgcobmifaaDoor.Pr Go.Proofs.YtmmbpbgcobmifaaDoorM
theorem put8 {W : World} {g : Nat} {t : TypeId} {z0 z1 z2 z3 z4 z5 z6 z7 : Value} (h : W.heap[g]? = some (.cells #[z0, z1, z2, z3, z4, z5, z6, z7] t (0, 0))) (v0 v1 v2 v3 v4 v5 v6 v7 : Value) : ((((((((W.setCell ⟨g, 0, none⟩ v0).setCell ⟨g, 1, none⟩ v1).setCell ⟨g, 2, none⟩ v2).setCell ⟨g, 3, none⟩ v3).setCell ⟨g, 4, none⟩ v4).setCell ⟨g, 5, none⟩ v5).setCell ⟨g, 6, none⟩ v6).setCell ⟨g, 7, none⟩ v7).heap[g]? = some (.cells #[v0, v1, v2, v3, v4, v5, v6, v7] t (0, 0)) := blk_put (cs := #[v0, v1, v2, v3, v4, v5, v6, z7]) (blk_put (cs := #[v0, v1, v2, v3, v4, v5, z6, z7]) (blk_put (cs := #[v0, v1, v2, v3, v4, z5, z6, z7]) (blk_put (cs := #[v0, v1, v2, v3, z4, z5, z6, z7]) (blk_put (cs := #[v0, v1, v2, z3, z4, z5, z6, z7]) (blk_put (cs := #[v0, v1, z2, z3, z4, z5, z6, z7]) (blk_put (cs := #[v0, z1, z2, z3, z4, z5, z6, z7]) (blk_put (cs := #[z0, z1, z2, z3, z4, z5, z6, z7]) h 0 _ rfl) 1 _ rfl) 2 _ rfl) 3 _ rfl) 4 _ rfl) 5 _ rfl) 6 _ rfl) 7 _ rfl
theorem farH (W : World) (g j : Nat) (v : Value) (k : Nat) (hk : k ≠ g) : (W.setCell ⟨g, j, none⟩ v).heap[k]? = W.heap[k]? := Below.heap_setCell W ⟨g, j, none⟩ v k hk
theorem bset {B : Nat} {w W : World} (h : Below B w W) (g j : Nat) (v : Value) (hg : B ≤ g) : Below B w (W.setCell ⟨g, j, none⟩ v) := h.setCell (p := ⟨g, j, none⟩) hg v
set_option maxHeartbeats 4000000 in
set_option maxRecDepth 100000 in
theorem ln8_a (p n co li sz : Int) (tx : ByteArray) (A0 A1 : Option Addr) (n0 n1 k0 k1 : Nat) (c l0 l1 l2 : Int) (w : World) (h4 : l2 ≤ sz) :
    Calls Tryd.prog 65 #[stV p n co li sz tx (.slice A0 n0 k0) (.slice A1 n1 k1), .int .u8 c, .agg #[.int .i64 l0, .int .i64 l1, .int .i64 l2]] w fun e w' => e = .returned (.tuple #[stV p n co li sz tx (.slice A0 n0 k0) (.slice A1 n1 k1), .int .i64 5]) ∧ Below w.heap.size w w' := by
  go_enter Tryd.func65, Tryd.ntmps65
  go_wp2
  refine bodyPost_ret (results_ct rfl _ _ (w.heap.size + 1 + 1) 39 _ (0, 0) _ (by rfl) (by exact blk3 w _ _ _ _) Tryd.underlying39 rfl (by kernel_rfl)) rfl ⟨rfl, below3 (Below.refl _ _) _ _ _⟩
set_option maxHeartbeats 4000000 in
set_option maxRecDepth 100000 in
theorem ln8_b (p n co li sz : Int) (tx : ByteArray) (A0 A1 : Option Addr) (n0 n1 k0 k1 : Nat) (c l0 l1 l2 : Int) (w : World) (h4 : ¬ l2 ≤ sz) (h3 : (c != 10) = true) (hw : IntKind.i64.wrap (sz + 1) = sz + 1) (ht : tx.size ≤ 1000000) :
    Calls Tryd.prog 65 #[stV p n co li sz tx (.slice A0 n0 k0) (.slice A1 n1 k1), .int .u8 c, .agg #[.int .i64 l0, .int .i64 l1, .int .i64 l2]] w fun e w' => e = .returned (.tuple #[stV p n co li (sz + 1) (tx ++ strOfNums [c]) (.slice A0 n0 k0) (.slice A1 n1 k1), .int .i64 0]) ∧ Below w.heap.size w w' := by
  have hcv := one_byte4 w c
  have hz1 : (strOfNums [c]).size = 1 := rfl
  have ht2 : ¬ 9223372036854775807 < tx.size + 1 := by omega
  go_enter Tryd.func65, Tryd.ntmps65
  go_wp2
  refine bodyPost_ret (results_ct rfl _ _ (w.heap.size + 1 + 1) 39 _ (0, 0) _ (by rfl) (by exact blk4 w _ _ _ _ _) Tryd.underlying39 rfl (by kernel_rfl)) rfl ⟨rfl, below_alloc (below3 (Below.refl _ _) _ _ _) _⟩
set_option maxHeartbeats 4000000 in
set_option maxRecDepth 100000 in
theorem ln8_d (n co li sz : Int) (tx : ByteArray) (A0 A1 : Option Addr) (n0 k0 k1 : Nat) (fs : List Fld) (c l0 l1 l2 : Int) (w : World) (hr : Kd.C k53 w A1 fs.length fs) (hk : fs.length ≤ k1) (hG : TabOk w) (h4 : ¬ l2 ≤ sz) (h3 : (c != 10) = false) (hw : IntKind.i64.wrap (sz + 1) = sz + 1) (ht : tx.size ≤ 1000000) (ht0 : 0 < tx.size) (hfl : fs.length ≤ 1000000) (k : Nat) (r1 r2 : ByteArray) (r3 : Bool) (hp : catchpitref05_Parse.f k (tx.extract 0 (tx.size - 1)) = some (r1, r2, r3)) :
    Calls Tryd.prog 65 #[stV 9 n co li sz tx (.slice A0 n0 k0) (.slice A1 fs.length k1), .int .u8 c, .agg #[.int .i64 l0, .int .i64 l1, .int .i64 l2]] w fun e w' => ∃ A2 k2, e = .returned (.tuple #[stV 6 n co li (sz + 1) ⟨#[]⟩ (.slice A0 n0 k0) (.slice A2 (fs ++ [(⟨r1, r2⟩ : Fld)]).length k2), .int .i64 0]) ∧ (fs ++ [(⟨r1, r2⟩ : Fld)]).length ≤ k2 ∧ (∀ W', (∀ k, w.heap.size ≤ k → W'.heap[k]? = w'.heap[k]?) → Kd.C k53 W' A2 (fs ++ [(⟨r1, r2⟩ : Fld)]).length (fs ++ [(⟨r1, r2⟩ : Fld)])) ∧ Below w.heap.size w w' := by
  have HP := Aside0.mk (fun (W : World) (h : Below w.heap.size w W) => catchpitref05_Parse.calls k _ r1 r2 r3 W (hG.below h) hp)
  have HR := Aside0.mk (fun (W : World) (h : Below w.heap.size w W) => Kd.C_below hr h)
  have hw1 : IntKind.i64.wrap ((tx.size : Int) - 1) = (tx.size : Int) - 1 := by
    unfold IntKind.wrap
    simp [IntKind.bits, IntKind.signed]
    omega
  have hs0 : (0 : Int) ≤ (tx.size : Int) - 1 := by omega
  have hs1 : (tx.size : Int) - 1 ≤ (tx.size : Int) := by omega
  have hs2 : ((tx.size : Int) - 1).toNat = tx.size - 1 := by omega
  clear hr hG hp
  go_enter Tryd.func65, Tryd.ntmps65
  go_wp2_with fail
  obtain ⟨W3, hW3⟩ : ∃ W3, (((w.alloc (.cells #[Value.int .i64 9, Value.int .u64 n, Value.int .i64 co, Value.int .i64 li, Value.int .i64 (sz + 1), Value.string tx, Value.slice A0 n0 k0, Value.slice A1 fs.length k1] 39)).alloc (.cells #[.int .i64 l0, .int .i64 l1, .int .i64 l2] 23)).alloc (.cells #[Value.int .i64 0, Value.int .u64 0, Value.int .i64 0, Value.int .i64 0, Value.int .i64 0, Value.string ⟨#[]⟩, Value.slice none 0 0, Value.slice none 0 0] 39)) = W3 := ⟨_, rfl⟩
  have B3 := Aside0.mk (show Below w.heap.size w W3 by rw [← hW3]; exact below3 (Below.refl _ _) _ _ _)
  have hS3 : W3.heap[w.heap.size]? = some (.cells #[Value.int .i64 9, Value.int .u64 n, Value.int .i64 co, Value.int .i64 li, Value.int .i64 (sz + 1), Value.string tx, Value.slice A0 n0 k0, Value.slice A1 fs.length k1] 39 (0, 0)) := by rw [← hW3]; exact alloc_keep _ (alloc_keep _ (World.alloc_heap_new w _))
  have hR3 : W3.heap[w.heap.size + 1 + 1]? = some (.cells #[Value.int .i64 0, Value.int .u64 0, Value.int .i64 0, Value.int .i64 0, Value.int .i64 0, Value.string ⟨#[]⟩, Value.slice none 0 0, Value.slice none 0 0] 39 (0, 0)) := by rw [← hW3]; exact blk3 w _ _ _ _
  rw [hW3]
  clear hW3
  refine (HP.out _ B3.out).mono ?_
  rintro e w4 ⟨rfl, hb4⟩
  have B4 := Aside0.mk (B3.out.trans (hb4.mono B3.out.size))
  have HS := Aside0.mk (fun W (h : Below w4.heap.size w4 W) => (h.block _ (blk_lt ((hb4.block _ (blk_lt hS3)).trans hS3))).trans ((hb4.block _ (blk_lt hS3)).trans hS3))
  have HRR := Aside0.mk (fun W (h : Below w4.heap.size w4 W) => (h.block _ (blk_lt ((hb4.block _ (blk_lt hR3)).trans hR3))).trans ((hb4.block _ (blk_lt hR3)).trans hR3))
  have hlt4 : w.heap.size + 1 + 1 < w4.heap.size := blk_lt (HRR.out w4 (Below.refl _ _))
  have hlt4' : w.heap.size < w4.heap.size := by omega
  have hne4 : ¬ w.heap.size = w4.heap.size := by omega
  have hne4' : ¬ w4.heap.size = w.heap.size := by omega
  clear hb4 hS3 hR3 HP
  have hS4 := HS.out w4 (Below.refl _ _)
  have s0 : w4.cell? ⟨w.heap.size, 0, none⟩ = some (Value.int .i64 9) := (blk_cell hS4 0).trans rfl
  have s1 : w4.cell? ⟨w.heap.size, 1, none⟩ = some (Value.int .u64 n) := (blk_cell hS4 1).trans rfl
  have s2 : w4.cell? ⟨w.heap.size, 2, none⟩ = some (Value.int .i64 co) := (blk_cell hS4 2).trans rfl
  have s3 : w4.cell? ⟨w.heap.size, 3, none⟩ = some (Value.int .i64 li) := (blk_cell hS4 3).trans rfl
  have s4 : w4.cell? ⟨w.heap.size, 4, none⟩ = some (Value.int .i64 (sz + 1)) := (blk_cell hS4 4).trans rfl
  have s5 : w4.cell? ⟨w.heap.size, 5, none⟩ = some (Value.string tx) := (blk_cell hS4 5).trans rfl
  have s6 : w4.cell? ⟨w.heap.size, 6, none⟩ = some (Value.slice A0 n0 k0) := (blk_cell hS4 6).trans rfl
  have s7 : w4.cell? ⟨w.heap.size, 7, none⟩ = some (Value.slice A1 fs.length k1) := (blk_cell hS4 7).trans rfl
  clear hS4
  go_wp2_with (first
    | ((with_reducible refine gate_builtin (b := .append) (xs := #[.tmp 47, .tmp 49]) rfl ?_); at_builtin; refine Kd.R_append_rows k53 (w0 := w4) w4.heap.size rfl (.tmp 47) (.tmp 49) 37 53 (.agg #[.string ⟨#[]⟩, .string ⟨#[]⟩]) 32 rfl Tryd.underlying37 info53 rfl (by decide) (by omega) (.slice none 0 0) ([] : List Fld) fs _ _ _ (fun _ => True) (fun _ => False) rfl rfl ?aO ?aR (fun _ _ h => h) (fun _ h => h.elim) (fun _ _ => trivial) ?aB ?aS ?aL ?_; (case aO => exact Kd.R_nil _ _ _ _ _); (case aR => exact HR.out _ (below_alloc B4.out _)); (case aB => exact below_alloc (Below.refl _ _) _); (case aS => exact (below_alloc (Below.refl _ _) _).size); (case aL => simp only [List.length_nil]; omega); intro v5 w5 ho5 hb5 hg5 hat5; have HO5 := Aside0.mk ho5; have HB5 := Aside0.mk hb5; have hbx := (hg5.block _ (blk_lt (World.alloc_heap_new w4 (.cells #[.string r1, .string r2] 53))) (by simp [Value.ownBlock])).trans (World.alloc_heap_new w4 _); have b0 : w5.cell? ⟨w4.heap.size, 0, none⟩ = some (.string r1) := (blk_cell hbx 0).trans rfl; have b1 : w5.cell? ⟨w4.heap.size, 1, none⟩ = some (.string r2) := (blk_cell hbx 1).trans rfl; clear ho5 hb5 hg5 hat5 hbx s0 s1 s2 s3 s4 s5 s6 s7)
    | ((with_reducible refine gate_builtin (b := .append) (xs := #[.tmp 51, .tmp 53]) rfl ?_); at_builtin; refine Kd.R_append k53 (w0 := w4) w4.heap.size rfl (.tmp 51) (.tmp 53) 37 53 (.agg #[.string ⟨#[]⟩, .string ⟨#[]⟩]) 32 rfl Tryd.underlying37 info53 rfl (by decide) (by omega) v5 ([] ++ fs) (⟨r1, r2⟩ : Fld) [.string r1, .string r2] (fun _ => True) (fun _ => False) rfl rfl ?aP (fun _ hk => hk.elim) (fun _ _ => trivial) ?aO ?aB ?aS ?aL ?_; (case aP => exact k53_mkM _ _ _ (⟨r1, r2⟩ : Fld)); (case aO => exact HO5.out); (case aB => exact HB5.out); (case aS => exact HB5.out.size); (case aL => simp only [List.nil_append]; omega); intro v6 w6 ho6 hb6 hg6 hat6; rw [List.nil_append] at ho6; have HO6 := Aside0.mk ho6; have HB6 := Aside0.mk hb6; obtain ⟨A6, c6, e6⟩ := Kd.R_slice ho6; subst e6; have hS6 := HS.out w6 hb6; have t0 : w6.cell? ⟨w.heap.size, 0, none⟩ = some (Value.int .i64 9) := (blk_cell hS6 0).trans rfl; have t1 : w6.cell? ⟨w.heap.size, 1, none⟩ = some (Value.int .u64 n) := (blk_cell hS6 1).trans rfl; have t2 : w6.cell? ⟨w.heap.size, 2, none⟩ = some (Value.int .i64 co) := (blk_cell hS6 2).trans rfl; have t3 : w6.cell? ⟨w.heap.size, 3, none⟩ = some (Value.int .i64 li) := (blk_cell hS6 3).trans rfl; have t4 : w6.cell? ⟨w.heap.size, 4, none⟩ = some (Value.int .i64 (sz + 1)) := (blk_cell hS6 4).trans rfl; have t5 : w6.cell? ⟨w.heap.size, 5, none⟩ = some (Value.string tx) := (blk_cell hS6 5).trans rfl; have t6 : w6.cell? ⟨w.heap.size, 6, none⟩ = some (Value.slice A0 n0 k0) := (blk_cell hS6 6).trans rfl; have t7 : w6.cell? ⟨w.heap.size, 7, none⟩ = some (Value.slice A1 fs.length k1) := (blk_cell hS6 7).trans rfl; have f0 := blk_frozen hS6 0; have f5 := blk_frozen hS6 5; have f7 := blk_frozen hS6 7; have hR6 := HRR.out w6 hb6; have u0 : w6.cell? ⟨w.heap.size + 1 + 1, 0, none⟩ = some (Value.int .i64 0) := (blk_cell hR6 0).trans rfl; have u1 : w6.cell? ⟨w.heap.size + 1 + 1, 1, none⟩ = some (Value.int .u64 0) := (blk_cell hR6 1).trans rfl; have u2 : w6.cell? ⟨w.heap.size + 1 + 1, 2, none⟩ = some (Value.int .i64 0) := (blk_cell hR6 2).trans rfl; have u3 : w6.cell? ⟨w.heap.size + 1 + 1, 3, none⟩ = some (Value.int .i64 0) := (blk_cell hR6 3).trans rfl; have u4 : w6.cell? ⟨w.heap.size + 1 + 1, 4, none⟩ = some (Value.int .i64 0) := (blk_cell hR6 4).trans rfl; have u5 : w6.cell? ⟨w.heap.size + 1 + 1, 5, none⟩ = some (Value.string ⟨#[]⟩) := (blk_cell hR6 5).trans rfl; have u6 : w6.cell? ⟨w.heap.size + 1 + 1, 6, none⟩ = some (Value.slice none 0 0) := (blk_cell hR6 6).trans rfl; have u7 : w6.cell? ⟨w.heap.size + 1 + 1, 7, none⟩ = some (Value.slice none 0 0) := (blk_cell hR6 7).trans rfl; have g0 := blk_frozen hR6 0; have g1 := blk_frozen hR6 1; have g2 := blk_frozen hR6 2; have g3 := blk_frozen hR6 3; have g4 := blk_frozen hR6 4; have g5 := blk_frozen hR6 5; have g6 := blk_frozen hR6 6; have g7 := blk_frozen hR6 7; have HR6 := Aside0.mk hR6; clear hR6; clear ho6 hb6 hg6 hat6 hS6 HO5))
  go_wp2
  have key : ∀ W, (∀ k, w4.heap.size ≤ k → W.heap[k]? = w6.heap[k]?) → (fs ++ [(⟨r1, r2⟩ : Fld)]).length ≤ c6 ∧ Kd.C k53 W A6 (fs ++ [(⟨r1, r2⟩ : Fld)]).length (fs ++ [⟨r1, r2⟩]) := fun W hW => by
    obtain ⟨_, _, q, hle, hC⟩ := Kd.R_reads (Kd.R_move (Kd.R_bound HO6.out) (fun k hk => hW k hk.2.1))
    cases q
    exact ⟨hle, hC⟩
  have hkk : ∀ k, w4.heap.size ≤ k → k ≠ w.heap.size ∧ k ≠ w.heap.size + 1 + 1 := fun k hk => by omega
  have hRS : w.heap.size + 1 + 1 ≠ w.heap.size := by omega
  refine bodyPost_ret (results_ct rfl _ _ (w.heap.size + 1 + 1) 39 _ (0, 0) _ (by rfl) (by exact put8 (by rw [farH _ _ _ _ _ hRS, farH _ _ _ _ _ hRS, farH _ _ _ _ _ hRS]; exact HR6.out) _ _ _ _ _ _ _ _) Tryd.underlying39 rfl (by kernel_rfl)) rfl ⟨A6, c6, by rw [List.length_append]; rfl, (key w6 (fun _ _ => rfl)).1, fun W' hW' => (key W' (fun k hk => (hW' k (by omega)).trans ?_)).2, ?_⟩
  · obtain ⟨q1, q2⟩ := hkk k hk
    rw [farH _ _ _ _ _ q2, farH _ _ _ _ _ q2, farH _ _ _ _ _ q2, farH _ _ _ _ _ q2, farH _ _ _ _ _ q2, farH _ _ _ _ _ q2, farH _ _ _ _ _ q2, farH _ _ _ _ _ q2, farH _ _ _ _ _ q1, farH _ _ _ _ _ q1, farH _ _ _ _ _ q1]
  · have hbb := B4.out.trans (HB6.out.mono B4.out.size)
    repeat (refine bset ?_ _ _ _ (by omega))
    exact hbb
end Go.Proofs.YtmmbpbgcobmifaaDoorH
end
