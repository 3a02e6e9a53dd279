import Derived.Test.YtoanmbhenmlboaaDoorZFramingNeverBothP3
import Derived.Test.YtoanmbhenmlboaaDoorZFramingNeverBothP7
import Derived.Test.YtoanmbhenmlboaaDoorZFramingNeverBothP6
import Derived.Test.YtoanmbhenmlboaaDoorZFramingNeverBothP1
import Derived.Test.YtoanmbhenmlboaaDoorZFramingNeverBothP4
import Derived.Test.YtoanmbhenmlboaaDoorZFramingNeverBothP5
import Derived.Test.YtoanmbhenmlboaaDoorRows
import Derived.LaidSub
import Derived.MakeChecks
import Derived.ProofKit
import Derived.OpenShut
import Derived.LaidMore
import Derived.Deep.Slices
import Derived.SizedLaws
import Derived.HandedShaped
import Derived.Handed
section
namespace Go.Proofs.YtoanmbhenmlboaaDoor.Pr
open Go.RowKit Go.Proofs.YtoanmbhenmlboaaDoorH Go.Proofs.YtoanmbhenmlboaaDoorW.PrintWords Go.Proofs.YtoanmbhenmlboaaDoorW.PrintLast Go.Proofs.YtoanmbhenmlboaaDoorW.PrintMore
attribute [local go_sem] max2_int min2_int max_two min_two max_three min_three max_four min_four   -- for this text's walks alone
set_option linter.unusedVariables false
set_option linter.unusedSimpArgs false
attribute [local go_sem high] eqA57
def catchpitref11_Request.f (k : Nat) (l0 : List (S71)) : Option (Int × Int × Int) := (catchpitref05_Get.f k l0 (⟨#[116, 114, 97, 110, 115, 102, 101, 114, 45, 101, 110, 99, 111, 100, 105, 110, 103]⟩ : ByteArray)).bind fun t231 => (if (t231.length : Int) = 0 then ((catchpitref11_length.f k l0 0).bind fun bt234 => (some (bt234.1, bt234.2.1, bt234.2.2))) else ((catchpitref07_Codings.f k t231).bind fun bt237 => (if bt237.2 = 0 then ((catchpitref05_Get.f k l0 (⟨#[99, 111, 110, 116, 101, 110, 116, 45, 108, 101, 110, 103, 116, 104]⟩ : ByteArray)).bind fun t241 => (if (t241.length : Int) > 0 then (some (0, 0, 2)) else (if (bt237.1.length : Int) = 1 then (if 0 < (bt237.1.length : Int) then (if (rdOf ByteArray.empty bt237.1 0).toList = ([99, 104, 117, 110, 107, 101, 100] : List UInt8) then (some (2, 0, 0)) else (some (0, 0, 2))) else (none)) else (some (0, 0, 2))))) else (some (0, 0, 2)))))
theorem catchpitref11_Request.mono : ∀ a0 k, LeO (catchpitref11_Request.f k a0) (catchpitref11_Request.f (k + 1) a0) := by
  intro a0 k
  unfold catchpitref11_Request.f
  repeat' first
      | (with_reducible exact catchpitref05_Get.mono _ _ _)
      | (with_reducible exact catchpitref07_Codings.mono _ _)
      | (with_reducible exact catchpitref11_length.mono _ _ _)
      | (with_reducible exact LeO.refl _)
      | (with_reducible exact LeO.none _)
      | (with_reducible refine LeO.ite ?_ ?_)
      | (with_reducible refine LeO.bind ?_ (fun _ => ?_))
      | exact catchpitref05_Get.mono _ _ _
      | exact catchpitref07_Codings.mono _ _
      | exact catchpitref11_length.mono _ _ _
      | exact LeO.none _
      | refine LeO.ite ?_ ?_
      | refine LeO.bind ?_ (fun _ => ?_)
def catchpitlaw11_FramingRequests.f (k : Nat) (l0 : List (S71)) : Option (Bool) := (catchpitlaw11_wakes.f k).bind fun t245 => (if t245 = true then ((catchpitref05_Great.f k l0).bind fun t246 => (if t246 = true then (some true) else ((framing_Request.f k l0).bind fun bt247 => ((catchpitref11_Request.f k l0).bind fun bt251 => (if (bt247.1 == bt251.1 && (bt247.2.1 == bt251.2.1)) = true then (some (bt247.2.2 == bt251.2.2)) else (some false)))))) else (some false))
theorem catchpitlaw11_FramingRequests.mono : ∀ a0 k, LeO (catchpitlaw11_FramingRequests.f k a0) (catchpitlaw11_FramingRequests.f (k + 1) a0) := by
  intro a0 k
  unfold catchpitlaw11_FramingRequests.f
  repeat' first
      | (with_reducible exact catchpitlaw11_wakes.mono _)
      | (with_reducible exact catchpitref05_Great.mono _ _)
      | (with_reducible exact catchpitref11_Request.mono _ _)
      | (with_reducible exact framing_Request.mono _ _)
      | (with_reducible exact LeO.refl _)
      | (with_reducible exact LeO.none _)
      | (with_reducible refine LeO.ite ?_ ?_)
      | (with_reducible refine LeO.bind ?_ (fun _ => ?_))
      | exact catchpitlaw11_wakes.mono _
      | exact catchpitref05_Great.mono _ _
      | exact catchpitref11_Request.mono _ _
      | exact framing_Request.mono _ _
      | exact LeO.none _
      | refine LeO.ite ?_ ?_
      | refine LeO.bind ?_ (fun _ => ?_)
def catchpitref11_Bodiless.f (a0 : ByteArray) (a1 : Int) : Option (Bool) := if a0.toList = ([72, 69, 65, 68] : List UInt8) then (some true) else (if a1 ≥ 100 then (if a1 < 200 then (some true) else (if a1 = 204 then (some true) else (if a1 = 304 then (some true) else (if a0.toList = ([67, 79, 78, 78, 69, 67, 84] : List UInt8) then (if a1 ≥ 200 then (some (decide (a1 < 300))) else (some false)) else (some false))))) else (if a1 = 204 then (some true) else (if a1 = 304 then (some true) else (if a0.toList = ([67, 79, 78, 78, 69, 67, 84] : List UInt8) then (if a1 ≥ 200 then (some (decide (a1 < 300))) else (some false)) else (some false)))))
set_option maxHeartbeats 8000000 in
set_option maxRecDepth 100000 in
theorem catchpitref11_Bodiless.calls (a0 : ByteArray) (a1 : Int) (r : Bool) (w : World) (hG : TabOk w) (h : catchpitref11_Bodiless.f a0 a1 = some r) :
    Calls Tryd.prog 34 #[.string a0, .int .i64 a1] w fun e w' => e = .returned (.bool r) ∧ Drawn0 w w' := by
  have H : (if a0.toList = ([72, 69, 65, 68] : List UInt8) then (some true) else (if a1 ≥ 100 then (if a1 < 200 then (some true) else (if a1 = 204 then (some true) else (if a1 = 304 then (some true) else (if a0.toList = ([67, 79, 78, 78, 69, 67, 84] : List UInt8) then (if a1 ≥ 200 then (some (decide (a1 < 300))) else (some false)) else (some false))))) else (if a1 = 204 then (some true) else (if a1 = 304 then (some true) else (if a0.toList = ([67, 79, 78, 78, 69, 67, 84] : List UInt8) then (if a1 ≥ 200 then (some (decide (a1 < 300))) else (some false)) else (some false)))))) = some r := h
  clear h
  by_cases c3 : a0.toList = ([72, 69, 65, 68] : List UInt8)
  · rw [if_pos c3] at H
    have c3b0 : (a0.toList == ([72, 69, 65, 68] : List UInt8)) = true := beq_iff_eq.mpr c3
    have c3b1 : (a0.toList != ([72, 69, 65, 68] : List UInt8)) = false := bne_eq_false_iff_eq.mpr c3
    clear c3
    obtain rfl := Option.some.inj H
    go_enter Tryd.func34, Tryd.ntmps34
    go_wp2
    go_ret
    exact ⟨by first | rfl | (simp; done) | (simp [*]; done), by repeat (first | exact Drawn0.refl _ | apply Drawn0.step)⟩
  · rw [if_neg c3] at H
    have c3b0 : (a0.toList == ([72, 69, 65, 68] : List UInt8)) = false := beq_eq_false_iff_ne.mpr c3
    have c3b1 : (a0.toList != ([72, 69, 65, 68] : List UInt8)) = true := bne_iff_ne.mpr c3
    by_cases c4 : a1 ≥ 100
    · rw [if_pos c4] at H
      have c4b0 : decide (100 ≤ a1) = true := decide_eq_true c4
      clear c4
      by_cases c5 : a1 < 200
      · rw [if_pos c5] at H
        have c5b0 : decide (a1 < 200) = true := decide_eq_true c5
        clear c5
        obtain rfl := Option.some.inj H
        go_enter Tryd.func34, Tryd.ntmps34
        go_wp2
        go_ret
        exact ⟨by first | rfl | (simp; done) | (simp [*]; done), by repeat (first | exact Drawn0.refl _ | apply Drawn0.step)⟩
      · rw [if_neg c5] at H
        have c5b0 : decide (a1 < 200) = false := decide_eq_false c5
        clear c5
        by_cases c6 : a1 = 204
        · rw [if_pos c6] at H
          have c6b0 : (a1 == 204) = true := beq_iff_eq.mpr c6
          have c6b1 : (a1 != 204) = false := bne_eq_false_iff_eq.mpr c6
          clear c6
          obtain rfl := Option.some.inj H
          go_enter Tryd.func34, Tryd.ntmps34
          go_wp2
          go_ret
          exact ⟨by first | rfl | (simp; done) | (simp [*]; done), by repeat (first | exact Drawn0.refl _ | apply Drawn0.step)⟩
        · rw [if_neg c6] at H
          have c6b0 : (a1 == 204) = false := beq_eq_false_iff_ne.mpr c6
          have c6b1 : (a1 != 204) = true := bne_iff_ne.mpr c6
          by_cases c7 : a1 = 304
          · rw [if_pos c7] at H
            have c7b0 : (a1 == 304) = true := beq_iff_eq.mpr c7
            have c7b1 : (a1 != 304) = false := bne_eq_false_iff_eq.mpr c7
            clear c7
            obtain rfl := Option.some.inj H
            go_enter Tryd.func34, Tryd.ntmps34
            go_wp2
            go_ret
            exact ⟨by first | rfl | (simp; done) | (simp [*]; done), by repeat (first | exact Drawn0.refl _ | apply Drawn0.step)⟩
          · rw [if_neg c7] at H
            have c7b0 : (a1 == 304) = false := beq_eq_false_iff_ne.mpr c7
            have c7b1 : (a1 != 304) = true := bne_iff_ne.mpr c7
            by_cases c8 : a0.toList = ([67, 79, 78, 78, 69, 67, 84] : List UInt8)
            · rw [if_pos c8] at H
              have c8b0 : (a0.toList == ([67, 79, 78, 78, 69, 67, 84] : List UInt8)) = true := beq_iff_eq.mpr c8
              have c8b1 : (a0.toList != ([67, 79, 78, 78, 69, 67, 84] : List UInt8)) = false := bne_eq_false_iff_eq.mpr c8
              clear c8
              by_cases c9 : a1 ≥ 200
              · rw [if_pos c9] at H
                have c9b0 : decide (200 ≤ a1) = true := decide_eq_true c9
                clear c9
                obtain rfl := Option.some.inj H
                go_enter Tryd.func34, Tryd.ntmps34
                go_wp2
                go_ret
                exact ⟨by first | rfl | (simp; done) | (simp [*]; done), by repeat (first | exact Drawn0.refl _ | apply Drawn0.step)⟩
              · rw [if_neg c9] at H
                have c9b0 : decide (200 ≤ a1) = false := decide_eq_false c9
                clear c9
                obtain rfl := Option.some.inj H
                go_enter Tryd.func34, Tryd.ntmps34
                go_wp2
                go_ret
                exact ⟨by first | rfl | (simp; done) | (simp [*]; done), by repeat (first | exact Drawn0.refl _ | apply Drawn0.step)⟩
            · rw [if_neg c8] at H
              have c8b0 : (a0.toList == ([67, 79, 78, 78, 69, 67, 84] : List UInt8)) = false := beq_eq_false_iff_ne.mpr c8
              have c8b1 : (a0.toList != ([67, 79, 78, 78, 69, 67, 84] : List UInt8)) = true := bne_iff_ne.mpr c8
              obtain rfl := Option.some.inj H
              go_enter Tryd.func34, Tryd.ntmps34
              go_wp2
              go_ret
              exact ⟨by first | rfl | (simp; done) | (simp [*]; done), by repeat (first | exact Drawn0.refl _ | apply Drawn0.step)⟩
    · rw [if_neg c4] at H
      have c4b0 : decide (100 ≤ a1) = false := decide_eq_false c4
      clear c4
      by_cases c10 : a1 = 204
      · rw [if_pos c10] at H
        have c10b0 : (a1 == 204) = true := beq_iff_eq.mpr c10
        have c10b1 : (a1 != 204) = false := bne_eq_false_iff_eq.mpr c10
        clear c10
        obtain rfl := Option.some.inj H
        go_enter Tryd.func34, Tryd.ntmps34
        go_wp2
        go_ret
        exact ⟨by first | rfl | (simp; done) | (simp [*]; done), by repeat (first | exact Drawn0.refl _ | apply Drawn0.step)⟩
      · rw [if_neg c10] at H
        have c10b0 : (a1 == 204) = false := beq_eq_false_iff_ne.mpr c10
        have c10b1 : (a1 != 204) = true := bne_iff_ne.mpr c10
        by_cases c11 : a1 = 304
        · rw [if_pos c11] at H
          have c11b0 : (a1 == 304) = true := beq_iff_eq.mpr c11
          have c11b1 : (a1 != 304) = false := bne_eq_false_iff_eq.mpr c11
          clear c11
          obtain rfl := Option.some.inj H
          go_enter Tryd.func34, Tryd.ntmps34
          go_wp2
          go_ret
          exact ⟨by first | rfl | (simp; done) | (simp [*]; done), by repeat (first | exact Drawn0.refl _ | apply Drawn0.step)⟩
        · rw [if_neg c11] at H
          have c11b0 : (a1 == 304) = false := beq_eq_false_iff_ne.mpr c11
          have c11b1 : (a1 != 304) = true := bne_iff_ne.mpr c11
          by_cases c12 : a0.toList = ([67, 79, 78, 78, 69, 67, 84] : List UInt8)
          · rw [if_pos c12] at H
            have c12b0 : (a0.toList == ([67, 79, 78, 78, 69, 67, 84] : List UInt8)) = true := beq_iff_eq.mpr c12
            have c12b1 : (a0.toList != ([67, 79, 78, 78, 69, 67, 84] : List UInt8)) = false := bne_eq_false_iff_eq.mpr c12
            clear c12
            by_cases c13 : a1 ≥ 200
            · rw [if_pos c13] at H
              have c13b0 : decide (200 ≤ a1) = true := decide_eq_true c13
              clear c13
              obtain rfl := Option.some.inj H
              go_enter Tryd.func34, Tryd.ntmps34
              go_wp2
              go_ret
              exact ⟨by first | rfl | (simp; done) | (simp [*]; done), by repeat (first | exact Drawn0.refl _ | apply Drawn0.step)⟩
            · rw [if_neg c13] at H
              have c13b0 : decide (200 ≤ a1) = false := decide_eq_false c13
              clear c13
              obtain rfl := Option.some.inj H
              go_enter Tryd.func34, Tryd.ntmps34
              go_wp2
              go_ret
              exact ⟨by first | rfl | (simp; done) | (simp [*]; done), by repeat (first | exact Drawn0.refl _ | apply Drawn0.step)⟩
          · rw [if_neg c12] at H
            have c12b0 : (a0.toList == ([67, 79, 78, 78, 69, 67, 84] : List UInt8)) = false := beq_eq_false_iff_ne.mpr c12
            have c12b1 : (a0.toList != ([67, 79, 78, 78, 69, 67, 84] : List UInt8)) = true := bne_iff_ne.mpr c12
            obtain rfl := Option.some.inj H
            go_enter Tryd.func34, Tryd.ntmps34
            go_wp2
            go_ret
            exact ⟨by first | rfl | (simp; done) | (simp [*]; done), by repeat (first | exact Drawn0.refl _ | apply Drawn0.step)⟩
end Go.Proofs.YtoanmbhenmlboaaDoor.Pr
end
section
namespace Go.Proofs.YtoanmbhenmlboaaDoor.Pr
open Go.RowKit Go.Proofs.YtoanmbhenmlboaaDoorH Go.Proofs.YtoanmbhenmlboaaDoorW.PrintWords Go.Proofs.YtoanmbhenmlboaaDoorW.PrintLast Go.Proofs.YtoanmbhenmlboaaDoorW.PrintMore
attribute [local go_sem] max2_int min2_int max_two min_two max_three min_three max_four min_four   -- for this text's walks alone
set_option linter.unusedVariables false
set_option linter.unusedSimpArgs false
mutual
def catchpitref11_Response.j0 : Nat → ByteArray → Int → List (S71) → Bool → Option (Int × Int × Int)
  | 0, _, _, _, _ => none
  | k + 1, x0, x1, x2, x18 => if x18 = true then (some (0, 0, 1)) else ((catchpitref11_Bodiless.f x0 x1).bind fun t256 => (if t256 = true then (some (0, 0, 0)) else ((catchpitref05_Get.f k x2 (⟨#[116, 114, 97, 110, 115, 102, 101, 114, 45, 101, 110, 99, 111, 100, 105, 110, 103]⟩ : ByteArray)).bind fun t257 => (if (t257.length : Int) = 0 then ((catchpitref11_length.f k x2 3).bind fun bt260 => (some (bt260.1, bt260.2.1, bt260.2.2))) else ((catchpitref07_Codings.f k t257).bind fun bt263 => (if bt263.2 = 0 then ((catchpitref05_Get.f k x2 (⟨#[99, 111, 110, 116, 101, 110, 116, 45, 108, 101, 110, 103, 116, 104]⟩ : ByteArray)).bind fun t267 => (catchpitref11_Response.j1 k bt263.1 (decide ((t267.length : Int) > 0)))) else (catchpitref11_Response.j1 k bt263.1 true)))))))
def catchpitref11_Response.j1 : Nat → List ByteArray → Bool → Option (Int × Int × Int)
  | 0, _, _ => none
  | k + 1, x9, x45 => if x45 = true then (some (0, 0, 2)) else (catchpitref11_Response.l0 k x9 0 0)
def catchpitref11_Response.l0 : Nat → List ByteArray → Int → Int → Option (Int × Int × Int)
  | 0, _, _, _ => none
  | k + 1, x9, x11, x12 => if x12 < (x9.length : Int) then (if 0 ≤ x12 then (if (rdOf ByteArray.empty x9 x12).toList = ([99, 104, 117, 110, 107, 101, 100] : List UInt8) then (catchpitref11_Response.l0 k x9 (wrap64 (x11 + 1)) (wrap64 (x12 + 1))) else (catchpitref11_Response.l0 k x9 x11 (wrap64 (x12 + 1)))) else (none)) else (if x11 = 0 then (some (3, 0, 0)) else (if x11 > 1 then (catchpitref11_Response.j3 k x9 true) else (if 0 ≤ (wrap64 ((x9.length : Int) - 1)) then (if (wrap64 ((x9.length : Int) - 1)) < (x9.length : Int) then (catchpitref11_Response.j3 k x9 ((rdOf ByteArray.empty x9 (wrap64 ((x9.length : Int) - 1))).toList != ([99, 104, 117, 110, 107, 101, 100] : List UInt8))) else (none)) else (none))))
def catchpitref11_Response.j3 : Nat → List ByteArray → Bool → Option (Int × Int × Int)
  | 0, _, _ => none
  | k + 1, x9, x73 => if x73 = true then (some (0, 0, 2)) else (if (x9.length : Int) > 1 then (some (0, 0, 5)) else (some (2, 0, 0)))
end
def catchpitref11_Response.f (k : Nat) (a0 : ByteArray) (a1 : Int) (l2 : List (S71)) : Option (Int × Int × Int) := if a1 < 100 then (catchpitref11_Response.j0 k a0 a1 l2 true) else (catchpitref11_Response.j0 k a0 a1 l2 (decide (a1 > 999)))
theorem catchpitref11_Response.mono_l : ∀ k, (∀ y0 y1 y2 y3, LeO (catchpitref11_Response.j0 k y0 y1 y2 y3) (catchpitref11_Response.j0 (k + 1) y0 y1 y2 y3)) ∧ (∀ y0 y1, LeO (catchpitref11_Response.j1 k y0 y1) (catchpitref11_Response.j1 (k + 1) y0 y1)) ∧ (∀ y0 y1 y2, LeO (catchpitref11_Response.l0 k y0 y1 y2) (catchpitref11_Response.l0 (k + 1) y0 y1 y2)) ∧ (∀ y0 y1, LeO (catchpitref11_Response.j3 k y0 y1) (catchpitref11_Response.j3 (k + 1) y0 y1))
  | 0 => ⟨fun _ _ _ _ r h => by simp [catchpitref11_Response.j0] at h, fun _ _ r h => by simp [catchpitref11_Response.j1] at h, fun _ _ _ r h => by simp [catchpitref11_Response.l0] at h, fun _ _ r h => by simp [catchpitref11_Response.j3] at h⟩
  | k + 1 => by
    obtain ⟨ih0, ih1, ih2, ih3⟩ := catchpitref11_Response.mono_l k
    refine ⟨?_, ?_, ?_, ?_⟩
    · intro y0 y1 y2 y3
      unfold catchpitref11_Response.j0
      repeat' first
      | (with_reducible exact ih0 _ _ _ _)
      | (with_reducible exact ih1 _ _)
      | (with_reducible exact ih2 _ _ _)
      | (with_reducible exact ih3 _ _)
      | (with_reducible exact catchpitref05_Get.mono _ _ _)
      | (with_reducible exact catchpitref07_Codings.mono _ _)
      | (with_reducible exact catchpitref11_length.mono _ _ _)
      | (with_reducible exact LeO.refl _)
      | (with_reducible exact LeO.none _)
      | (with_reducible refine LeO.ite ?_ ?_)
      | (with_reducible refine LeO.bind ?_ (fun _ => ?_))
      | exact ih0 _ _ _ _
      | exact ih1 _ _
      | exact ih2 _ _ _
      | exact ih3 _ _
      | exact catchpitref05_Get.mono _ _ _
      | exact catchpitref07_Codings.mono _ _
      | exact catchpitref11_length.mono _ _ _
      | exact LeO.none _
      | refine LeO.ite ?_ ?_
      | refine LeO.bind ?_ (fun _ => ?_)
    · intro y0 y1
      unfold catchpitref11_Response.j1
      repeat' first
      | (with_reducible exact ih0 _ _ _ _)
      | (with_reducible exact ih1 _ _)
      | (with_reducible exact ih2 _ _ _)
      | (with_reducible exact ih3 _ _)
      | (with_reducible exact catchpitref05_Get.mono _ _ _)
      | (with_reducible exact catchpitref07_Codings.mono _ _)
      | (with_reducible exact catchpitref11_length.mono _ _ _)
      | (with_reducible exact LeO.refl _)
      | (with_reducible exact LeO.none _)
      | (with_reducible refine LeO.ite ?_ ?_)
      | (with_reducible refine LeO.bind ?_ (fun _ => ?_))
      | exact ih0 _ _ _ _
      | exact ih1 _ _
      | exact ih2 _ _ _
      | exact ih3 _ _
      | exact catchpitref05_Get.mono _ _ _
      | exact catchpitref07_Codings.mono _ _
      | exact catchpitref11_length.mono _ _ _
      | exact LeO.none _
      | refine LeO.ite ?_ ?_
      | refine LeO.bind ?_ (fun _ => ?_)
    · intro y0 y1 y2
      unfold catchpitref11_Response.l0
      repeat' first
      | (with_reducible exact ih0 _ _ _ _)
      | (with_reducible exact ih1 _ _)
      | (with_reducible exact ih2 _ _ _)
      | (with_reducible exact ih3 _ _)
      | (with_reducible exact catchpitref05_Get.mono _ _ _)
      | (with_reducible exact catchpitref07_Codings.mono _ _)
      | (with_reducible exact catchpitref11_length.mono _ _ _)
      | (with_reducible exact LeO.refl _)
      | (with_reducible exact LeO.none _)
      | (with_reducible refine LeO.ite ?_ ?_)
      | (with_reducible refine LeO.bind ?_ (fun _ => ?_))
      | exact ih0 _ _ _ _
      | exact ih1 _ _
      | exact ih2 _ _ _
      | exact ih3 _ _
      | exact catchpitref05_Get.mono _ _ _
      | exact catchpitref07_Codings.mono _ _
      | exact catchpitref11_length.mono _ _ _
      | exact LeO.none _
      | refine LeO.ite ?_ ?_
      | refine LeO.bind ?_ (fun _ => ?_)
    · intro y0 y1
      unfold catchpitref11_Response.j3
      repeat' first
      | (with_reducible exact ih0 _ _ _ _)
      | (with_reducible exact ih1 _ _)
      | (with_reducible exact ih2 _ _ _)
      | (with_reducible exact ih3 _ _)
      | (with_reducible exact catchpitref05_Get.mono _ _ _)
      | (with_reducible exact catchpitref07_Codings.mono _ _)
      | (with_reducible exact catchpitref11_length.mono _ _ _)
      | (with_reducible exact LeO.refl _)
      | (with_reducible exact LeO.none _)
      | (with_reducible refine LeO.ite ?_ ?_)
      | (with_reducible refine LeO.bind ?_ (fun _ => ?_))
      | exact ih0 _ _ _ _
      | exact ih1 _ _
      | exact ih2 _ _ _
      | exact ih3 _ _
      | exact catchpitref05_Get.mono _ _ _
      | exact catchpitref07_Codings.mono _ _
      | exact catchpitref11_length.mono _ _ _
      | exact LeO.none _
      | refine LeO.ite ?_ ?_
      | refine LeO.bind ?_ (fun _ => ?_)
theorem catchpitref11_Response.mono : ∀ a0 a1 a2 k, LeO (catchpitref11_Response.f k a0 a1 a2) (catchpitref11_Response.f (k + 1) a0 a1 a2) := by
  intro a0 a1 a2 k
  obtain ⟨ih0, ih1, ih2, ih3⟩ := catchpitref11_Response.mono_l k
  unfold catchpitref11_Response.f
  repeat' first
      | (with_reducible exact ih0 _ _ _ _)
      | (with_reducible exact ih1 _ _)
      | (with_reducible exact ih2 _ _ _)
      | (with_reducible exact ih3 _ _)
      | (with_reducible exact catchpitref05_Get.mono _ _ _)
      | (with_reducible exact catchpitref07_Codings.mono _ _)
      | (with_reducible exact catchpitref11_length.mono _ _ _)
      | (with_reducible exact LeO.refl _)
      | (with_reducible exact LeO.none _)
      | (with_reducible refine LeO.ite ?_ ?_)
      | (with_reducible refine LeO.bind ?_ (fun _ => ?_))
      | exact ih0 _ _ _ _
      | exact ih1 _ _
      | exact ih2 _ _ _
      | exact ih3 _ _
      | exact catchpitref05_Get.mono _ _ _
      | exact catchpitref07_Codings.mono _ _
      | exact catchpitref11_length.mono _ _ _
      | exact LeO.none _
      | refine LeO.ite ?_ ?_
      | refine LeO.bind ?_ (fun _ => ?_)
end Go.Proofs.YtoanmbhenmlboaaDoor.Pr
end
section
namespace Go.Proofs.YtoanmbhenmlboaaDoor.Pr
open Go.RowKit Go.Proofs.YtoanmbhenmlboaaDoorH Go.Proofs.YtoanmbhenmlboaaDoorW.PrintWords Go.Proofs.YtoanmbhenmlboaaDoorW.PrintLast Go.Proofs.YtoanmbhenmlboaaDoorW.PrintMore
attribute [local go_sem] max2_int min2_int max_two min_two max_three min_three max_four min_four   -- for this text's walks alone
set_option linter.unusedVariables false
set_option linter.unusedSimpArgs false
attribute [local go_sem high] eqA57
def catchpitlaw11_FramingResponses.j0 : Nat → ByteArray → Int → List (S71) → Bool → Option (Bool)
  | 0, _, _, _, _ => none
  | k + 1, x0, x1, x2, x19 => if x19 = true then (some true) else ((framing_Response.f k x0 x1 x2).bind fun bt274 => ((catchpitref11_Response.f k x0 x1 x2).bind fun bt278 => (if (bt274.1 == bt278.1 && (bt274.2.1 == bt278.2.1)) = true then (if bt274.2.2 = bt278.2.2 then ((framing_Bodiless.f k x0 x1).bind fun t282 => ((catchpitref11_Bodiless.f x0 x1).bind fun t283 => (some (t282 == t283)))) else (some false)) else (some false))))
def catchpitlaw11_FramingResponses.f (k : Nat) (a0 : ByteArray) (a1 : Int) (l2 : List (S71)) : Option (Bool) := (catchpitlaw11_wakes.f k).bind fun t272 => (if t272 = true then ((catchpitref05_Great.f k l2).bind fun t273 => (if t273 = true then (catchpitlaw11_FramingResponses.j0 k a0 a1 l2 true) else (catchpitlaw11_FramingResponses.j0 k a0 a1 l2 (decide ((a0.size : Int) > 200))))) else (some false))
theorem catchpitlaw11_FramingResponses.mono_l : ∀ k, (∀ y0 y1 y2 y3, LeO (catchpitlaw11_FramingResponses.j0 k y0 y1 y2 y3) (catchpitlaw11_FramingResponses.j0 (k + 1) y0 y1 y2 y3))
  | 0 => fun _ _ _ _ r h => by simp [catchpitlaw11_FramingResponses.j0] at h
  | k + 1 => by
    have ih0 := catchpitlaw11_FramingResponses.mono_l k
    · intro y0 y1 y2 y3
      unfold catchpitlaw11_FramingResponses.j0
      repeat' first
      | (with_reducible exact ih0 _ _ _ _)
      | (with_reducible exact catchpitlaw11_wakes.mono _)
      | (with_reducible exact catchpitref05_Great.mono _ _)
      | (with_reducible exact catchpitref11_Response.mono _ _ _ _)
      | (with_reducible exact framing_Bodiless.mono _ _ _)
      | (with_reducible exact framing_Response.mono _ _ _ _)
      | (with_reducible exact LeO.refl _)
      | (with_reducible exact LeO.none _)
      | (with_reducible refine LeO.ite ?_ ?_)
      | (with_reducible refine LeO.bind ?_ (fun _ => ?_))
      | exact ih0 _ _ _ _
      | exact catchpitlaw11_wakes.mono _
      | exact catchpitref05_Great.mono _ _
      | exact catchpitref11_Response.mono _ _ _ _
      | exact framing_Bodiless.mono _ _ _
      | exact framing_Response.mono _ _ _ _
      | exact LeO.none _
      | refine LeO.ite ?_ ?_
      | refine LeO.bind ?_ (fun _ => ?_)
theorem catchpitlaw11_FramingResponses.mono : ∀ a0 a1 a2 k, LeO (catchpitlaw11_FramingResponses.f k a0 a1 a2) (catchpitlaw11_FramingResponses.f (k + 1) a0 a1 a2) := by
  intro a0 a1 a2 k
  have ih0 := catchpitlaw11_FramingResponses.mono_l k
  unfold catchpitlaw11_FramingResponses.f
  repeat' first
      | (with_reducible exact ih0 _ _ _ _)
      | (with_reducible exact catchpitlaw11_wakes.mono _)
      | (with_reducible exact catchpitref05_Great.mono _ _)
      | (with_reducible exact catchpitref11_Response.mono _ _ _ _)
      | (with_reducible exact framing_Bodiless.mono _ _ _)
      | (with_reducible exact framing_Response.mono _ _ _ _)
      | (with_reducible exact LeO.refl _)
      | (with_reducible exact LeO.none _)
      | (with_reducible refine LeO.ite ?_ ?_)
      | (with_reducible refine LeO.bind ?_ (fun _ => ?_))
      | exact ih0 _ _ _ _
      | exact catchpitlaw11_wakes.mono _
      | exact catchpitref05_Great.mono _ _
      | exact catchpitref11_Response.mono _ _ _ _
      | exact framing_Bodiless.mono _ _ _
      | exact framing_Response.mono _ _ _ _
      | exact LeO.none _
      | refine LeO.ite ?_ ?_
      | refine LeO.bind ?_ (fun _ => ?_)
mutual
def catchpitref05_Without.l0 : Nat → List (S71) → List ByteArray → List (S71) → Int → Option ((List (S71)))
  | 0, _, _, _, _ => none
  | k + 1, x0, x1, x5, x6 => if x6 < (x0.length : Int) then (if 0 ≤ x6 then (if x5.length < 4398046511104 then (catchpitref05_Without.l1 k x0 x1 (x5 ++ [(⟨(rd_T71 x0 x6).f0, (rd_T71 x0 x6).f1⟩ : S71)]) x6 0) else (none)) else (none)) else (some x5)
def catchpitref05_Without.l1 : Nat → List (S71) → List ByteArray → List (S71) → Int → Int → Option ((List (S71)))
  | 0, _, _, _, _, _ => none
  | k + 1, x0, x1, x5, x6, x7 => if x7 < (x1.length : Int) then (if 0 ≤ x6 then (if x6 < (x0.length : Int) then (if 0 ≤ x7 then ((catchpitref05_Is.f k ((rd_T71 x0 x6).f0) ((rd_T71 x0 x6).f1) (rdOf ByteArray.empty x1 x7)).bind fun t290 => (if t290 = true then (if 0 ≤ (wrap64 ((x5.length : Int) - 1)) then (if (wrap64 ((x5.length : Int) - 1)) ≤ (x5.length : Int) then (catchpitref05_Without.l0 k x0 x1 (x5.take ((wrap64 ((x5.length : Int) - 1)) : Int).toNat) (wrap64 (x6 + 1))) else (none)) else (none)) else (catchpitref05_Without.l1 k x0 x1 x5 x6 (wrap64 (x7 + 1))))) else (none)) else (none)) else (none)) else (catchpitref05_Without.l0 k x0 x1 x5 (wrap64 (x6 + 1)))
end
def catchpitref05_Without.f (k : Nat) (l0 : List (S71)) (l1 : List ByteArray) : Option ((List (S71))) := catchpitref05_Without.l0 k l0 l1 ([] : List (S71)) 0
theorem catchpitref05_Without.mono_l : ∀ k, (∀ y0 y1 y2 y3, LeO (catchpitref05_Without.l0 k y0 y1 y2 y3) (catchpitref05_Without.l0 (k + 1) y0 y1 y2 y3)) ∧ (∀ y0 y1 y2 y3 y4, LeO (catchpitref05_Without.l1 k y0 y1 y2 y3 y4) (catchpitref05_Without.l1 (k + 1) y0 y1 y2 y3 y4))
  | 0 => ⟨fun _ _ _ _ r h => by simp [catchpitref05_Without.l0] at h, fun _ _ _ _ _ r h => by simp [catchpitref05_Without.l1] at h⟩
  | k + 1 => by
    obtain ⟨ih0, ih1⟩ := catchpitref05_Without.mono_l k
    refine ⟨?_, ?_⟩
    · intro y0 y1 y2 y3
      unfold catchpitref05_Without.l0
      repeat' first
      | (with_reducible exact ih0 _ _ _ _)
      | (with_reducible exact ih1 _ _ _ _ _)
      | (with_reducible exact catchpitref05_Is.mono _ _ _ _)
      | (with_reducible exact LeO.refl _)
      | (with_reducible exact LeO.none _)
      | (with_reducible refine LeO.ite ?_ ?_)
      | (with_reducible refine LeO.bind ?_ (fun _ => ?_))
      | exact ih0 _ _ _ _
      | exact ih1 _ _ _ _ _
      | exact catchpitref05_Is.mono _ _ _ _
      | exact LeO.none _
      | refine LeO.ite ?_ ?_
      | refine LeO.bind ?_ (fun _ => ?_)
    · intro y0 y1 y2 y3 y4
      unfold catchpitref05_Without.l1
      repeat' first
      | (with_reducible exact ih0 _ _ _ _)
      | (with_reducible exact ih1 _ _ _ _ _)
      | (with_reducible exact catchpitref05_Is.mono _ _ _ _)
      | (with_reducible exact LeO.refl _)
      | (with_reducible exact LeO.none _)
      | (with_reducible refine LeO.ite ?_ ?_)
      | (with_reducible refine LeO.bind ?_ (fun _ => ?_))
      | exact ih0 _ _ _ _
      | exact ih1 _ _ _ _ _
      | exact catchpitref05_Is.mono _ _ _ _
      | exact LeO.none _
      | refine LeO.ite ?_ ?_
      | refine LeO.bind ?_ (fun _ => ?_)
theorem catchpitref05_Without.mono : ∀ a0 a1 k, LeO (catchpitref05_Without.f k a0 a1) (catchpitref05_Without.f (k + 1) a0 a1) := by
  intro a0 a1 k
  obtain ⟨ih0, ih1⟩ := catchpitref05_Without.mono_l k
  unfold catchpitref05_Without.f
  repeat' first
      | (with_reducible exact ih0 _ _ _ _)
      | (with_reducible exact ih1 _ _ _ _ _)
      | (with_reducible exact catchpitref05_Is.mono _ _ _ _)
      | (with_reducible exact LeO.refl _)
      | (with_reducible exact LeO.none _)
      | (with_reducible refine LeO.ite ?_ ?_)
      | (with_reducible refine LeO.bind ?_ (fun _ => ?_))
      | exact ih0 _ _ _ _
      | exact ih1 _ _ _ _ _
      | exact catchpitref05_Is.mono _ _ _ _
      | exact LeO.none _
      | refine LeO.ite ?_ ?_
      | refine LeO.bind ?_ (fun _ => ?_)
end Go.Proofs.YtoanmbhenmlboaaDoor.Pr
end
section
namespace Go.Proofs.YtoanmbhenmlboaaDoor.Pr
open Go.RowKit Go.Proofs.YtoanmbhenmlboaaDoorH Go.Proofs.YtoanmbhenmlboaaDoorW.PrintWords Go.Proofs.YtoanmbhenmlboaaDoorW.PrintLast Go.Proofs.YtoanmbhenmlboaaDoorW.PrintMore
attribute [local go_sem] max2_int min2_int max_two min_two max_three min_three max_four min_four   -- for this text's walks alone
set_option linter.unusedVariables false
set_option linter.unusedSimpArgs false
attribute [local go_sem high] eqA57
def catchpitlaw11_FramingPlain.j0 : Nat → Int → List (S71) → Bool → Option (Bool)
  | 0, _, _, _ => none
  | k + 1, x0, x1, x29 => if x29 = true then (some true) else ((catchpitref05_Without.f k x1 (([(⟨#[84, 114, 97, 110, 115, 102, 101, 114, 45, 69, 110, 99, 111, 100, 105, 110, 103]⟩ : ByteArray), (⟨#[67, 111, 110, 116, 101, 110, 116, 45, 76, 101, 110, 103, 116, 104]⟩ : ByteArray)] : List ByteArray))).bind fun t299 => ((framing_Request.f k t299).bind fun bt302 => ((framing_Response.f k (⟨#[71, 69, 84]⟩ : ByteArray) x0 t299).bind fun bt306 => (if bt302.2.2 = 0 then (if bt306.2.2 = 0 then (if (bt302.1 == 0 && (bt302.2.1 == 0)) = true then (some (bt306.1 == 3 && (bt306.2.1 == 0))) else (some false)) else (some false)) else (some false)))))
def catchpitlaw11_FramingPlain.f (k : Nat) (a0 : Int) (l1 : List (S71)) : Option (Bool) := (catchpitlaw11_wakes.f k).bind fun t294 => (if t294 = true then ((catchpitref05_Great.f k l1).bind fun t295 => (if t295 = true then (catchpitlaw11_FramingPlain.j0 k a0 l1 true) else (if a0 < 200 then (catchpitlaw11_FramingPlain.j0 k a0 l1 true) else (if a0 > 999 then (catchpitlaw11_FramingPlain.j0 k a0 l1 true) else (if a0 = 204 then (catchpitlaw11_FramingPlain.j0 k a0 l1 true) else (catchpitlaw11_FramingPlain.j0 k a0 l1 (a0 == 304))))))) else (some false))
theorem catchpitlaw11_FramingPlain.mono_l : ∀ k, (∀ y0 y1 y2, LeO (catchpitlaw11_FramingPlain.j0 k y0 y1 y2) (catchpitlaw11_FramingPlain.j0 (k + 1) y0 y1 y2))
  | 0 => fun _ _ _ r h => by simp [catchpitlaw11_FramingPlain.j0] at h
  | k + 1 => by
    have ih0 := catchpitlaw11_FramingPlain.mono_l k
    · intro y0 y1 y2
      unfold catchpitlaw11_FramingPlain.j0
      repeat' first
      | (with_reducible exact ih0 _ _ _)
      | (with_reducible exact catchpitlaw11_wakes.mono _)
      | (with_reducible exact catchpitref05_Great.mono _ _)
      | (with_reducible exact catchpitref05_Without.mono _ _ _)
      | (with_reducible exact framing_Request.mono _ _)
      | (with_reducible exact framing_Response.mono _ _ _ _)
      | (with_reducible exact LeO.refl _)
      | (with_reducible exact LeO.none _)
      | (with_reducible refine LeO.ite ?_ ?_)
      | (with_reducible refine LeO.bind ?_ (fun _ => ?_))
      | exact ih0 _ _ _
      | exact catchpitlaw11_wakes.mono _
      | exact catchpitref05_Great.mono _ _
      | exact catchpitref05_Without.mono _ _ _
      | exact framing_Request.mono _ _
      | exact framing_Response.mono _ _ _ _
      | exact LeO.none _
      | refine LeO.ite ?_ ?_
      | refine LeO.bind ?_ (fun _ => ?_)
theorem catchpitlaw11_FramingPlain.mono : ∀ a0 a1 k, LeO (catchpitlaw11_FramingPlain.f k a0 a1) (catchpitlaw11_FramingPlain.f (k + 1) a0 a1) := by
  intro a0 a1 k
  have ih0 := catchpitlaw11_FramingPlain.mono_l k
  unfold catchpitlaw11_FramingPlain.f
  repeat' first
      | (with_reducible exact ih0 _ _ _)
      | (with_reducible exact catchpitlaw11_wakes.mono _)
      | (with_reducible exact catchpitref05_Great.mono _ _)
      | (with_reducible exact catchpitref05_Without.mono _ _ _)
      | (with_reducible exact framing_Request.mono _ _)
      | (with_reducible exact framing_Response.mono _ _ _ _)
      | (with_reducible exact LeO.refl _)
      | (with_reducible exact LeO.none _)
      | (with_reducible refine LeO.ite ?_ ?_)
      | (with_reducible refine LeO.bind ?_ (fun _ => ?_))
      | exact ih0 _ _ _
      | exact catchpitlaw11_wakes.mono _
      | exact catchpitref05_Great.mono _ _
      | exact catchpitref05_Without.mono _ _ _
      | exact framing_Request.mono _ _
      | exact framing_Response.mono _ _ _ _
      | exact LeO.none _
      | refine LeO.ite ?_ ?_
      | refine LeO.bind ?_ (fun _ => ?_)
def catchpitref07_Has.l0 : Nat → ByteArray → List ByteArray → Int → Option (Bool)
  | 0, _, _, _ => none
  | k + 1, x0, x5, x6 => if x6 < (x5.length : Int) then (if 0 ≤ x6 then ((catchpitref07_word.f k (rdOf ByteArray.empty x5 x6)).bind fun t314 => ((catchpitref02_Small.f k t314).bind fun t315 => ((catchpitref02_Small.f k x0).bind fun t316 => (if t315.toList = t316.toList then (some true) else (catchpitref07_Has.l0 k x0 x5 (wrap64 (x6 + 1))))))) else (none)) else (some false)
def catchpitref07_Has.f (k : Nat) (a0 : ByteArray) (l1 : List ByteArray) : Option (Bool) := (catchpitref07_Items.f k l1).bind fun t310 => (catchpitref07_Has.l0 k a0 t310 0)
theorem catchpitref07_Has.mono_l : ∀ k, (∀ y0 y1 y2, LeO (catchpitref07_Has.l0 k y0 y1 y2) (catchpitref07_Has.l0 (k + 1) y0 y1 y2))
  | 0 => fun _ _ _ r h => by simp [catchpitref07_Has.l0] at h
  | k + 1 => by
    have ih0 := catchpitref07_Has.mono_l k
    · intro y0 y1 y2
      unfold catchpitref07_Has.l0
      repeat' first
      | (with_reducible exact ih0 _ _ _)
      | (with_reducible exact catchpitref02_Small.mono _ _)
      | (with_reducible exact catchpitref07_Items.mono _ _)
      | (with_reducible exact catchpitref07_word.mono _ _)
      | (with_reducible exact LeO.refl _)
      | (with_reducible exact LeO.none _)
      | (with_reducible refine LeO.ite ?_ ?_)
      | (with_reducible refine LeO.bind ?_ (fun _ => ?_))
      | exact ih0 _ _ _
      | exact catchpitref02_Small.mono _ _
      | exact catchpitref07_Items.mono _ _
      | exact catchpitref07_word.mono _ _
      | exact LeO.none _
      | refine LeO.ite ?_ ?_
      | refine LeO.bind ?_ (fun _ => ?_)
theorem catchpitref07_Has.mono : ∀ a0 a1 k, LeO (catchpitref07_Has.f k a0 a1) (catchpitref07_Has.f (k + 1) a0 a1) := by
  intro a0 a1 k
  have ih0 := catchpitref07_Has.mono_l k
  unfold catchpitref07_Has.f
  repeat' first
      | (with_reducible exact ih0 _ _ _)
      | (with_reducible exact catchpitref02_Small.mono _ _)
      | (with_reducible exact catchpitref07_Items.mono _ _)
      | (with_reducible exact catchpitref07_word.mono _ _)
      | (with_reducible exact LeO.refl _)
      | (with_reducible exact LeO.none _)
      | (with_reducible refine LeO.ite ?_ ?_)
      | (with_reducible refine LeO.bind ?_ (fun _ => ?_))
      | exact ih0 _ _ _
      | exact catchpitref02_Small.mono _ _
      | exact catchpitref07_Items.mono _ _
      | exact catchpitref07_word.mono _ _
      | exact LeO.none _
      | refine LeO.ite ?_ ?_
      | refine LeO.bind ?_ (fun _ => ?_)
def octet_Alike.f (a0 : ByteArray) (a1 : ByteArray) : Option (Bool) := (octet_Small.f a0).bind fun t317 => ((octet_Small.f a1).bind fun t318 => (some (t317.toList == t318.toList)))
def framing_Lasts.f (l0 : List (S71)) : Option (Bool) := (field_Get.f l0 (⟨#[67, 111, 110, 110, 101, 99, 116, 105, 111, 110]⟩ : ByteArray)).bind fun t319 => ((list_Has.f (⟨#[99, 108, 111, 115, 101]⟩ : ByteArray) t319).bind fun t322 => (some (!t322)))
def framing_Expects.f (l0 : List (S71)) : Option (Bool) := (field_Get.f l0 (⟨#[69, 120, 112, 101, 99, 116]⟩ : ByteArray)).bind fun t323 => ((list_Has.f (⟨#[49, 48, 48, 45, 99, 111, 110, 116, 105, 110, 117, 101]⟩ : ByteArray) t323).bind fun t326 => (some t326))
def catchpitlaw11_FramingSays.f (k : Nat) (l0 : List (S71)) : Option (Bool) := (catchpitlaw11_wakes.f k).bind fun t327 => (if t327 = true then ((catchpitref05_Great.f k l0).bind fun t328 => (if t328 = true then (some true) else ((framing_Lasts.f l0).bind fun t329 => ((catchpitref05_Get.f k l0 (⟨#[99, 111, 110, 110, 101, 99, 116, 105, 111, 110]⟩ : ByteArray)).bind fun t330 => ((catchpitref07_Has.f k (⟨#[99, 108, 111, 115, 101]⟩ : ByteArray) t330).bind fun t333 => (if (t329 == (!t333)) = true then ((framing_Expects.f l0).bind fun t334 => ((catchpitref05_Get.f k l0 (⟨#[101, 120, 112, 101, 99, 116]⟩ : ByteArray)).bind fun t335 => ((catchpitref07_Has.f k (⟨#[49, 48, 48, 45, 99, 111, 110, 116, 105, 110, 117, 101]⟩ : ByteArray) t335).bind fun t338 => (some (t334 == t338))))) else (some false))))))) else (some false))
theorem catchpitlaw11_FramingSays.mono : ∀ a0 k, LeO (catchpitlaw11_FramingSays.f k a0) (catchpitlaw11_FramingSays.f (k + 1) a0) := by
  intro a0 k
  unfold catchpitlaw11_FramingSays.f
  repeat' first
      | (with_reducible exact catchpitlaw11_wakes.mono _)
      | (with_reducible exact catchpitref05_Get.mono _ _ _)
      | (with_reducible exact catchpitref05_Great.mono _ _)
      | (with_reducible exact catchpitref07_Has.mono _ _ _)
      | (with_reducible exact LeO.refl _)
      | (with_reducible exact LeO.none _)
      | (with_reducible refine LeO.ite ?_ ?_)
      | (with_reducible refine LeO.bind ?_ (fun _ => ?_))
      | exact catchpitlaw11_wakes.mono _
      | exact catchpitref05_Get.mono _ _ _
      | exact catchpitref05_Great.mono _ _
      | exact catchpitref07_Has.mono _ _ _
      | exact LeO.none _
      | refine LeO.ite ?_ ?_
      | refine LeO.bind ?_ (fun _ => ?_)
def catchpitlaw20_waits.f  : Option ((List (S71))) := some (([(⟨(⟨#[69, 120, 112, 101, 99, 116]⟩ : ByteArray), (⟨#[49, 48, 48, 45, 99, 111, 110, 116, 105, 110, 117, 101]⟩ : ByteArray)⟩ : S71)] : List (S71)))
def expect_Handshake_goOn.f (s0_0 : Int) (s0_1 : Int) (s0_2 : ByteArray) : Option (Int × Int × ByteArray) := some (2, s0_1, (⟨#[72, 84, 84, 80, 47, 49, 46, 49, 32, 49, 48, 48, 32, 67, 111, 110, 116, 105, 110, 117, 101, 13, 10, 13, 10]⟩ : ByteArray))
end Go.Proofs.YtoanmbhenmlboaaDoor.Pr
end
section
namespace Go.Proofs.YtoanmbhenmlboaaDoorH
open Go.RowKit Go.Proofs.YtoanmbhenmlboaaDoorW.PrintWords Go.Proofs.YtoanmbhenmlboaaDoorW.PrintLast Go.Proofs.YtoanmbhenmlboaaDoorW.PrintMore Go.Proofs.YtoanmbhenmlboaaDoor.Pr
theorem itemsL_length (xs : List ByteArray) : (itemsL xs).length ≤ sumS xs := by
  unfold itemsL
  rw [List.length_map]
  exact itemsF_length xs 0
theorem codR_length (xs : List ByteArray) (hS : sumS xs ≤ 1000000) : (codR xs).1.length ≤ 1000000 := by
  have hn := itemsL_length xs
  unfold codR
  split
  · exact Nat.zero_le _
  split
  · exact Nat.zero_le _
  split
  · exact Nat.zero_le _
  · show (codesL (itemsL xs)).length ≤ _
    unfold codesL
    rw [List.length_map]
    omega
end Go.Proofs.YtoanmbhenmlboaaDoorH
end
section
namespace Go.Proofs.YtoanmbhenmlboaaDoorH
open Go.RowKit Go.Proofs.YtoanmbhenmlboaaDoorW.PrintWords Go.Proofs.YtoanmbhenmlboaaDoorW.PrintLast Go.Proofs.YtoanmbhenmlboaaDoorW.PrintMore Go.Proofs.YtoanmbhenmlboaaDoor.Pr
def nTE : ByteArray := ⟨#[84, 114, 97, 110, 115, 102, 101, 114, 45, 69, 110, 99, 111, 100, 105, 110, 103]⟩
def nCL : ByteArray := ⟨#[67, 111, 110, 116, 101, 110, 116, 45, 76, 101, 110, 103, 116, 104]⟩
def kCh : ByteArray := ⟨#[99, 104, 117, 110, 107, 101, 100]⟩
theorem getL_alike (l : List Fld) (a b : ByteArray) (h : smallS a = smallS b) : getL l a = getL l b := by
  unfold getL isB alikeB
  rw [h]
theorem sumS_getL (n : ByteArray) : ∀ l : List Fld, sumS (getL l n) ≤ sumF l
  | [] => Nat.le_refl _
  | x :: l => by
    have ih := sumS_getL n l
    unfold getL at ih ⊢
    rw [sumF_cons]
    cases h : isB x n with
    | true => rw [List.filter_cons_of_pos (p := fun x => isB x n) h, List.map_cons, sumS_cons]; omega
    | false => rw [List.filter_cons_of_neg (p := fun x => isB x n) (by simp [h])]; omega
def sizedR (l : List Fld) (o : Int) : Int × Int × Int :=
  if (getL l nCL).length = 0 then (o, 0, 0) else if (lenR (getL l nCL)).2 = 0 then (1, (lenR (getL l nCL)).1, 0) else (0, 0, (lenR (getL l nCL)).2)
theorem lenR_nil {xs : List ByteArray} (h : xs.length = 0) : lenR xs = (0, 7) := by unfold lenR; rw [if_pos h]
theorem lenR_seven {xs : List ByteArray} (h : xs.length ≠ 0) : (lenR xs).2 ≠ 7 := by
  unfold lenR
  rw [if_neg h]
  repeat' split
  all_goals first
    | decide
    | (show (0 : Int) ≠ 7; decide)
def codedR (l : List Fld) : Int := if 0 < (getL l nCL).length then 2 else (codR (getL l nTE)).2
def requestR (l : List Fld) : Int × Int × Int :=
  if (getL l nTE).length = 0 then sizedR l 0 else if codedR l = 0 ∧ (codR (getL l nTE)).1 = [kCh] then (2, 0, 0) else (0, 0, 2)
section
variable (l : List Fld) (hl : Small1 l) (hs : sumF l ≤ 3000)
include hl hs
theorem getL_eq (n : ByteArray) (hn : n.size ≤ 1000) : field_Get.f l n = some (getL l n) := field_Get_eq l n hl (by omega) (by have := sumF_length l; omega)
theorem codings_eq : framing_codings.f l = some (if (getL l nTE).length = 0 then ([], false, 0) else ((codR (getL l nTE)).1, true, codedR l)) := by
  have h1 := sumS_getL nTE l
  unfold framing_codings.f
  show (field_Get.f l nTE).bind _ = _
  rw [getL_eq l hl hs nTE (by decide), Option.bind_some]
  by_cases h : (getL l nTE).length = 0
  · rw [if_pos (by omega), if_pos h]
  · rw [if_neg (by omega), if_neg h]
    unfold list_Codings.f
    rw [if_pos (by omega), Option.bind_some]
    show (field_Get.f l nCL).bind _ = _
    rw [getL_eq l hl hs nCL (by decide), Option.bind_some]
    unfold codedR
    by_cases h2 : 0 < (getL l nCL).length
    · rw [if_pos (by omega), if_pos h2]
    · rw [if_neg (by omega), if_neg h2]
theorem sized_eq (o : Int) : framing_sized.f l o = some (sizedR l o) := by
  have h1 := sumS_getL nCL l
  unfold framing_sized.f
  show (field_Get.f l nCL).bind _ = _
  rw [getL_eq l hl hs nCL (by decide), Option.bind_some]
  unfold list_Length.f sizedR
  rw [if_pos (by omega), Option.bind_some]
  by_cases h : (getL l nCL).length = 0
  · rw [if_pos h, lenR_nil h, if_neg (by decide), if_pos rfl]
  · have h7 := lenR_seven h
    rw [if_neg h]
    by_cases h0 : (lenR (getL l nCL)).2 = 0
    · rw [if_pos h0, if_pos h0, h0]
    · rw [if_neg h0, if_neg h0, if_neg h7]
end
theorem rdOf_at (l : List ByteArray) (i : Nat) : rdOf ByteArray.empty l (i : Int) = l.getD i ByteArray.empty := by
  unfold rdOf
  rw [Int.toNat_natCast]
theorem drop_eq_step (a b : List ByteArray) (i : Nat) (h1 : i < a.length) (h2 : i < b.length) : (a.drop i = b.drop i) ↔ (a.getD i ByteArray.empty = b.getD i ByteArray.empty ∧ a.drop (i + 1) = b.drop (i + 1)) := by
  rw [drop_cons a ByteArray.empty i h1, drop_cons b ByteArray.empty i h2, List.cons.injEq]
theorem equal_ev (a b : List ByteArray) (ha : a.length ≤ 100000000) : Ev (fun k => slices_Equal_string_string.f k a b) (decide (a = b)) := by
  by_cases hlen : a.length = b.length
  · have hl0 : ∀ d i k : Nat, i ≤ a.length → a.length - i = d → d < k → slices_Equal_string_string.l0 k a b (a.length : Int) (i : Int) = some (decide (a.drop i = b.drop i)) := by
      intro d
      induction d with
      | zero =>
        intro i k h1 h2 h3
        obtain ⟨k, rfl⟩ : ∃ m, k = m + 1 := ⟨k - 1, by omega⟩
        rw [slices_Equal_string_string.l0, if_neg (by omega), List.drop_eq_nil_of_le (by omega), List.drop_eq_nil_of_le (by omega)]
        rfl
      | succ d ih =>
        intro i k h1 h2 h3
        obtain ⟨k, rfl⟩ : ∃ m, k = m + 1 := ⟨k - 1, by omega⟩
        have hst := drop_eq_step a b i (by omega) (by omega)
        rw [slices_Equal_string_string.l0, if_pos (by omega), if_pos (by omega), if_pos (by omega), if_pos (by omega), rdOf_at, rdOf_at, show wrap64 ((i : Int) + 1) = ((i + 1 : Nat) : Int) by unfold wrap64; omega]
        by_cases he : a.getD i ByteArray.empty = b.getD i ByteArray.empty
        · rw [if_pos ((eq_toList _ _).2 he), ih (i + 1) k (by omega) (by omega) (by omega)]
          congr 1
          rw [decide_eq_decide, hst]
          exact ⟨fun h => ⟨he, h⟩, fun h => h.2⟩
        · rw [if_neg (fun h => he ((eq_toList _ _).1 h))]
          congr 1
          rw [eq_comm, decide_eq_false_iff_not, hst]
          exact fun h => he h.1
    refine ⟨a.length + 1, fun k hk => ?_⟩
    show slices_Equal_string_string.f k a b = _
    rw [slices_Equal_string_string.f, if_pos (by omega)]
    exact hl0 a.length 0 k (by omega) (by omega) (by omega)
  · refine ⟨0, fun k hk => ?_⟩
    show slices_Equal_string_string.f k a b = _
    rw [slices_Equal_string_string.f, if_neg (by omega)]
    congr 1
    rw [eq_comm, decide_eq_false_iff_not]
    rintro rfl
    exact hlen rfl
def AtR (c : List ByteArray) (x : ByteArray) (r : Int) : Prop := (r = -1 ∧ x ∉ c) ∨ ∃ p t, c = p ++ x :: t ∧ x ∉ p ∧ r = (p.length : Int)
theorem index_ev (c : List ByteArray) (x : ByteArray) (hc : c.length ≤ 100000000) : ∃ r, AtR c x r ∧ Ev (fun k => slices_Index_string_string.f k c x) r := by
  have hl0 : ∀ d i : Nat, i ≤ c.length → c.length - i = d → x ∉ c.take i → ∃ r, AtR c x r ∧ Ev (fun k => slices_Index_string_string.l0 k c x (c.length : Int) (i : Int)) r := by
    intro d
    induction d with
    | zero =>
      intro i h1 h2 h3
      rw [List.take_of_length_le (by omega)] at h3
      refine ⟨-1, .inl ⟨rfl, h3⟩, ev_succ ⟨0, fun k _ => ?_⟩⟩
      show slices_Index_string_string.l0 (k + 1) c x _ _ = _
      rw [slices_Index_string_string.l0, if_neg (by omega)]
    | succ d ih =>
      intro i h1 h2 h3
      by_cases he : x = c.getD i ByteArray.empty
      · refine ⟨(i : Int), .inr ⟨c.take i, c.drop (i + 1), ?_, h3, ?_⟩, ev_succ ⟨0, fun k _ => ?_⟩⟩
        · rw [he, ← drop_cons c ByteArray.empty i (by omega), List.take_append_drop]
        · rw [List.length_take]; omega
        · show slices_Index_string_string.l0 (k + 1) c x _ _ = _
          rw [slices_Index_string_string.l0, if_pos (by omega), if_pos (by omega), if_pos (by omega), rdOf_at, if_pos ((eq_toList _ _).2 he)]
      · obtain ⟨r, hr, he2⟩ := ih (i + 1) (by omega) (by omega) (by
          rw [take_one c ByteArray.empty i (by omega), List.mem_append, List.mem_singleton]
          exact fun h => h.elim h3 he)
        refine ⟨r, hr, ev_succ (ev_as he2 fun k => ?_)⟩
        rw [slices_Index_string_string.l0, if_pos (by omega), if_pos (by omega), if_pos (by omega), rdOf_at, if_neg (fun h => he ((eq_toList _ _).1 h)), show wrap64 ((i : Int) + 1) = ((i + 1 : Nat) : Int) by unfold wrap64; omega]
  exact hl0 c.length 0 (by omega) (by omega) (by simp)
section
variable (l : List Fld) (hl : Small1 l) (hs : sumF l ≤ 3000)
include hl hs
omit hl in
theorem codes_length : (codR (getL l nTE)).1.length ≤ 1000000 := codR_length _ (by have := sumS_getL nTE l; omega)
theorem request_ev : Ev (fun k => framing_Request.f k l) (requestR l) := by
  obtain ⟨K, g⟩ := equal_ev (codR (getL l nTE)).1 [kCh] (by have := codes_length l hs; omega)
  dsimp only at g
  refine ⟨K, fun k hk => ?_⟩
  show framing_Request.f k l = _
  unfold framing_Request.f requestR
  rw [codings_eq l hl hs, Option.bind_some]
  by_cases h : (getL l nTE).length = 0
  · rw [if_pos h, if_pos h, if_neg (by decide), sized_eq l hl hs, Option.bind_some]
  · rw [if_neg h, if_neg h, if_pos rfl]
    by_cases h0 : codedR l = 0
    · rw [if_pos h0]
      have := g k hk
      rw [show ([(⟨#[99, 104, 117, 110, 107, 101, 100]⟩ : ByteArray)] : List ByteArray) = [kCh] from rfl, this, Option.bind_some]
      by_cases h1 : (codR (getL l nTE)).1 = [kCh]
      · rw [if_pos (decide_eq_true h1), if_pos ⟨h0, h1⟩]
      · rw [if_neg (by rw [decide_eq_false h1]; decide), if_neg (fun h => h1 h.2)]
    · rw [if_neg h0, if_neg (fun h => h0 h.1)]
end
def bodyless (m : ByteArray) (s : Int) : Bool := (catchpitref11_Bodiless.f m s).getD false
theorem ref_bodiless (m : ByteArray) (s : Int) : catchpitref11_Bodiless.f m s = some (bodyless m s) := by
  unfold bodyless catchpitref11_Bodiless.f
  repeat' split
  all_goals rfl
theorem bodiless_ev (m : ByteArray) (s : Int) : Ev (fun k => framing_Bodiless.f k m s) (bodyless m s) := by
  refine ⟨2, fun k hk => ?_⟩
  obtain ⟨k, rfl⟩ : ∃ j, k = j + 2 := ⟨k - 2, by omega⟩
  show framing_Bodiless.f (k + 2) m s = _
  rw [← ref_bodiless]
  unfold framing_Bodiless.f catchpitref11_Bodiless.f
  simp only [framing_Bodiless.j0, framing_Bodiless.j1]
  by_cases hP : m.toList = ([72, 69, 65, 68] : List UInt8)
  · have hQ : (m.toList = ([67, 79, 78, 78, 69, 67, 84] : List UInt8)) = False := by rw [hP]; exact eq_false (by decide)
    have hb : (m.toList == ([72, 69, 65, 68] : List UInt8)) = true := by rw [beq_iff_eq]; exact hP
    have hP' := eq_true hP
    clear hP
    simp only [hP', hQ, hb, if_true, if_false, decide_eq_true_eq, beq_iff_eq, Bool.false_eq_true]
    repeat' split
    all_goals first
      | rfl
      | (exfalso; omega)
  · have hb : (m.toList == ([72, 69, 65, 68] : List UInt8)) = false := by rw [beq_eq_false_iff_ne]; exact hP
    have hP' := eq_false hP
    clear hP
    by_cases hQ : m.toList = ([67, 79, 78, 78, 69, 67, 84] : List UInt8)
    · have hQ' := eq_true hQ
      clear hQ
      simp only [hP', hQ', hb, if_true, if_false, decide_eq_true_eq, beq_iff_eq, Bool.false_eq_true]
      repeat' split
      all_goals first
        | rfl
        | (exfalso; omega)
        | (congr 1; rw [eq_comm, decide_eq_true_iff]; omega)
        | (congr 1; rw [eq_comm, decide_eq_false_iff_not]; omega)
    · have hQ' := eq_false hQ
      clear hQ
      simp only [hP', hQ', hb, if_true, if_false, decide_eq_true_eq, beq_iff_eq, Bool.false_eq_true]
      repeat' split
      all_goals first
        | rfl
        | (exfalso; omega)
def cntC : List ByteArray → Nat
  | [] => 0
  | y :: l => if y = kCh then cntC l + 1 else cntC l
theorem cntC_append : ∀ a b : List ByteArray, cntC (a ++ b) = cntC a + cntC b
  | [], b => by rw [List.nil_append]; exact (Nat.zero_add _).symm
  | y :: a, b => by
    rw [List.cons_append, cntC, cntC, cntC_append a b]
    split <;> omega
theorem cntC_none : ∀ a : List ByteArray, kCh ∉ a → cntC a = 0
  | [], _ => rfl
  | y :: a, h => by
    rw [cntC, if_neg (fun e => h (by rw [e]; exact List.mem_cons_self)), cntC_none a (fun e => h (List.mem_cons_of_mem _ e))]
theorem cntC_one (y : ByteArray) : cntC [y] = if y = kCh then 1 else 0 := rfl
def respC (c : List ByteArray) : Int × Int × Int :=
  if cntC c = 0 then (3, 0, 0) else if 1 < cntC c ∨ c.getLastD ByteArray.empty ≠ kCh then (0, 0, 2) else if 1 < c.length then (0, 0, 5) else (2, 0, 0)
def responseR (m : ByteArray) (s : Int) (l : List Fld) : Int × Int × Int :=
  if s < 100 ∨ 999 < s then (0, 0, 1) else if bodyless m s = true then (0, 0, 0) else if (getL l nTE).length = 0 then sizedR l 3
  else if codedR l = 0 then respC (codR (getL l nTE)).1 else (0, 0, 2)
theorem respC_at (c : List ByteArray) (r : Int) (h : AtR c kCh r) (hc : c.length ≤ 100000000) :
    respC c = if r ≥ 0 ∧ r < wrap64 ((c.length : Int) - 1) then (0, 0, 2) else if r < 0 then (3, 0, 0) else if r > 0 then (0, 0, 5) else (2, 0, 0) := by
  have hw : wrap64 ((c.length : Int) - 1) = (c.length : Int) - 1 := by unfold wrap64; omega
  rw [hw]
  unfold respC
  rcases h with ⟨rfl, h⟩ | ⟨p, t, rfl, hp, rfl⟩
  · rw [if_pos (cntC_none _ h), if_neg (by omega), if_pos (by omega)]
  · have h1 : cntC (p ++ kCh :: t) = cntC t + 1 := by
      rw [cntC_append, cntC_none p hp, cntC, if_pos rfl, Nat.zero_add]
    have h2 : (p ++ kCh :: t).length = p.length + (t.length + 1) := by rw [List.length_append, List.length_cons]
    rw [h1, h2, if_neg (by omega)]
    rcases List.eq_nil_or_concat t with rfl | ⟨t', z, rfl⟩
    · have h3 : (p ++ [kCh]).getLastD ByteArray.empty = kCh := by rw [List.getLastD_eq_getLast?, List.getLast?_concat]; rfl
      have h8 : cntC [] = 0 := rfl
      have h9 : ([] : List ByteArray).length = 0 := rfl
      rw [h3, h8, h9, if_neg (show ¬ (1 < 0 + 1 ∨ kCh ≠ kCh) from fun h => h.elim (fun h => absurd h (by decide)) (fun h => h rfl))]
      repeat' split
      all_goals first
        | rfl
        | (exfalso; omega)
    · have h3 : (p ++ kCh :: (t'.concat z)).getLastD ByteArray.empty = z := by
        rw [List.concat_eq_append, ← List.cons_append, ← List.append_assoc, List.getLastD_eq_getLast?, List.getLast?_concat]
        rfl
      have h5 : 1 < cntC (t'.concat z) + 1 ∨ (p ++ kCh :: (t'.concat z)).getLastD ByteArray.empty ≠ kCh := by
        rw [h3]
        by_cases hz : z = kCh
        · refine .inl ?_
          rw [hz, List.concat_eq_append, cntC_append, cntC_one, if_pos rfl]
          omega
        · exact .inr hz
      have h6 : (t'.concat z).length = t'.length + 1 := by rw [List.concat_eq_append, List.length_append]; rfl
      rw [if_pos h5, if_pos (by rw [h6]; omega)]
section
variable (m : ByteArray) (s : Int) (l : List Fld) (hl : Small1 l) (hs : sumF l ≤ 3000)
include hl hs
theorem response_ev : Ev (fun k => framing_Response.f k m s l) (responseR m s l) := by
  obtain ⟨r, hr, K1, g1⟩ := index_ev (codR (getL l nTE)).1 kCh (by have := codes_length l hs; omega)
  obtain ⟨K2, g2⟩ := bodiless_ev m s
  have hR := respC_at _ r hr (by have := codes_length l hs; omega)
  dsimp only at g1 g2
  refine ⟨K1 + K2 + 3, fun k hk => ?_⟩
  obtain ⟨k, rfl⟩ : ∃ j, k = j + 2 := ⟨k - 2, by omega⟩
  show framing_Response.f (k + 2) m s l = _
  have e : framing_Response.f (k + 2) m s l = framing_Response.j0 (k + 1 + 1) m s l (decide (s < 100 ∨ 999 < s)) := by
    unfold framing_Response.f
    by_cases h : s < 100
    · rw [if_pos h, decide_eq_true (.inl h)]
    · rw [if_neg h]
      congr 1
      rw [decide_eq_decide]
      omega
  rw [e, framing_Response.j0]
  unfold responseR
  by_cases h : s < 100 ∨ 999 < s
  · rw [if_pos (decide_eq_true h), if_pos h]
  · rw [if_neg (by rw [decide_eq_false h]; decide), if_neg h, g2 _ (by omega), Option.bind_some]
    by_cases hb : bodyless m s = true
    · rw [if_pos hb, if_pos hb]
    · rw [if_neg hb, if_neg hb, codings_eq l hl hs, Option.bind_some]
      by_cases h0 : (getL l nTE).length = 0
      · rw [if_pos h0, if_pos h0, if_neg (by decide), sized_eq l hl hs, Option.bind_some]
      · rw [if_neg h0, if_neg h0, if_pos rfl]
        show (slices_Index_string_string.f (k + 1) (codR (getL l nTE)).1 kCh).bind _ = _
        rw [g1 _ (by omega), Option.bind_some]
        have hj : ∀ b : Bool, framing_Response.j1 (k + 1) r b = some (if b = true then (0, 0, 2) else if r < 0 then (3, 0, 0) else if r > 0 then (0, 0, 5) else (2, 0, 0)) := by
          intro b
          rw [framing_Response.j1]
          repeat' split
          all_goals rfl
        by_cases h1 : codedR l = 0
        · rw [if_pos h1, if_pos h1, hR]
          by_cases h2 : r ≥ 0
          · rw [if_pos h2, hj]
            congr 1
            by_cases h3 : r < wrap64 (((codR (getL l nTE)).1.length : Int) - 1)
            · rw [if_pos (decide_eq_true h3), if_pos ⟨h2, h3⟩]
            · rw [if_neg (by rw [decide_eq_false h3]; decide), if_neg (show ¬ (r ≥ 0 ∧ r < wrap64 (((codR (getL l nTE)).1.length : Int) - 1)) from fun h => h3 h.2)]
          · rw [if_neg h2, hj, if_neg (by decide), if_neg (show ¬ (r ≥ 0 ∧ r < wrap64 (((codR (getL l nTE)).1.length : Int) - 1)) from fun h => h2 h.1)]
        · rw [if_neg h1, if_neg h1, hj, if_pos (by rw [bne_iff_ne]; exact h1)]
end
theorem wakes11 : Ev (fun k => catchpitlaw11_wakes.f k) true := by
  have hsm : Small1 (([(⟨nTE, kCh⟩ : Fld), (⟨nCL, (⟨#[53]⟩ : ByteArray)⟩ : Fld)] : List Fld)) := by
    intro y hy
    rcases List.mem_cons.1 hy with rfl | hy
    · exact ⟨by decide, by decide⟩
    · rw [List.mem_singleton.1 hy]
      exact ⟨by decide, by decide⟩
  obtain ⟨K1, g1⟩ := request_ev (([(⟨nTE, kCh⟩ : Fld), (⟨nCL, (⟨#[53]⟩ : ByteArray)⟩ : Fld)] : List Fld)) hsm (by decide)
  obtain ⟨K2, g2⟩ := response_ev (⟨#[71, 69, 84]⟩ : ByteArray) 204 [] (fun y hy => by cases hy) (by decide)
  dsimp only at g1 g2
  rw [show requestR (([(⟨nTE, kCh⟩ : Fld), (⟨nCL, (⟨#[53]⟩ : ByteArray)⟩ : Fld)] : List Fld)) = (0, 0, 2) by decide +kernel] at g1
  rw [show responseR (⟨#[71, 69, 84]⟩ : ByteArray) 204 [] = (0, 0, 0) by decide +kernel] at g2
  refine ⟨K1 + K2, fun k hk => ?_⟩
  show (framing_Request.f k (([(⟨nTE, kCh⟩ : Fld), (⟨nCL, (⟨#[53]⟩ : ByteArray)⟩ : Fld)] : List Fld))).bind _ = _
  rw [g1 k (by omega), Option.bind_some]
  show (framing_Response.f k (⟨#[71, 69, 84]⟩ : ByteArray) 204 []).bind _ = _
  rw [g2 k (by omega), Option.bind_some]
  rfl
end Go.Proofs.YtoanmbhenmlboaaDoorH
end
section
namespace Go.Proofs.YtoanmbhenmlboaaDoor.Ph
open Go.RowKit Go.Proofs.YtoanmbhenmlboaaDoorH Go.Proofs.YtoanmbhenmlboaaDoorW.PrintWords Go.Proofs.YtoanmbhenmlboaaDoorW.PrintLast Go.Proofs.YtoanmbhenmlboaaDoorW.PrintMore Go.Proofs.YtoanmbhenmlboaaDoor.Pr
theorem sized_kind (l : List Fld) (o : Int) (ho : o ≠ 1) (h : (sizedR l o).1 = 1) : 0 < (getL l nCL).length := by
  unfold sizedR at h
  by_cases h0 : (getL l nCL).length = 0
  · rw [if_pos h0] at h
    exact absurd h ho
  · omega
theorem never_req (l : List Fld) : (0 < (getL l nTE).length → 0 < (getL l nCL).length → (requestR l).2.2 = 2) ∧ ((requestR l).1 = 1 → (getL l nTE).length = 0 ∧ 0 < (getL l nCL).length) := by
  unfold requestR
  by_cases h0 : (getL l nTE).length = 0
  · rw [if_pos h0]
    exact ⟨fun h => by omega, fun h => ⟨h0, sized_kind l 0 (by decide) h⟩⟩
  · rw [if_neg h0]
    refine ⟨fun _ h => ?_, fun h => ?_⟩
    · rw [if_neg (fun e => by have := e.1; unfold codedR at this; rw [if_pos h] at this; cases this)]
    · split at h <;> exact absurd h (by decide)
theorem respC_kind (c : List ByteArray) : (respC c).1 ≠ 1 := by
  unfold respC
  repeat' split
  all_goals decide
theorem never_resp (m : ByteArray) (s : Int) (l : List Fld) : (0 < (getL l nTE).length → 0 < (getL l nCL).length → (responseR m s l).2.2 = 0 → bodyless m s = true) ∧ ((responseR m s l).1 = 1 → (getL l nTE).length = 0 ∧ 0 < (getL l nCL).length) := by
  unfold responseR
  by_cases h1 : s < 100 ∨ 999 < s
  · rw [if_pos h1]
    exact ⟨fun _ _ h => absurd h (by decide), fun h => absurd h (by decide)⟩
  · rw [if_neg h1]
    by_cases h2 : bodyless m s = true
    · rw [if_pos h2]
      exact ⟨fun _ _ _ => h2, fun h => absurd h (by decide)⟩
    · rw [if_neg h2]
      by_cases h0 : (getL l nTE).length = 0
      · rw [if_pos h0]
        exact ⟨fun h => by omega, fun h => ⟨h0, sized_kind l 3 (by decide) h⟩⟩
      · rw [if_neg h0]
        refine ⟨fun _ h he => ?_, fun h => ?_⟩
        · rw [if_neg (fun e => by unfold codedR at e; rw [if_pos h] at e; cases e)] at he
          cases he
        · split at h
          · exact absurd h (respC_kind _)
          · exact absurd h (by decide)
def nTe : ByteArray := ⟨#[84, 82, 65, 78, 83, 70, 69, 82, 45, 101, 110, 99, 111, 100, 105, 110, 103]⟩
def nCl : ByteArray := ⟨#[67, 79, 78, 84, 69, 78, 84, 45, 108, 101, 110, 103, 116, 104]⟩
theorem getL_Te (l : List Fld) : getL l nTe = getL l nTE := getL_alike l _ _ (by decide +kernel)
theorem getL_Cl (l : List Fld) : getL l nCl = getL l nCL := getL_alike l _ _ (by decide +kernel)
def catchpitlaw11_FramingNeverBoth.f (_m : ByteArray) (_s : Int) (l : List Fld) : Option Bool := if l.length ≤ 140737488351232 ∧ ∀ y ∈ l, y.f0.size ≤ 140737488351232 ∧ y.f1.size ≤ 140737488351232 then some true else none
set_option maxHeartbeats 4000000 in
set_option maxRecDepth 100000 in
theorem catchpitlaw11_FramingNeverBoth.calls (m : ByteArray) (s : Int) (A0 : Option Addr) (c0 : Nat) (l0 : List Fld) (r : Bool) (w : World) (hr0 : Kd.C k71 w A0 l0.length l0) (hc0 : l0.length ≤ c0) (hG : TabOk w) (h : catchpitlaw11_FramingNeverBoth.f m s l0 = some r) :
    Calls Tryd.prog 9 #[.string m, .int .i64 s, .slice A0 l0.length c0] w fun e w' => e = .returned (.bool r) ∧ Below w.heap.size w w' := by
  unfold catchpitlaw11_FramingNeverBoth.f at h
  split at h
  case isFalse => cases h
  rename_i hf
  obtain ⟨hn, hl1⟩ := hf
  have HSM := Aside0.mk (show Small1 l0 from hl1)
  injection h with h
  subst h
  have HR0 := Aside0.mk hr0
  have HC0 := Aside0.mk hc0
  have HG := Aside0.mk hG
  clear hr0 hG hc0 hl1
  obtain ⟨K0, g0⟩ := wakes11
  have HW := Aside0.mk (g0 K0 (Nat.le_refl _))
  obtain ⟨K1, g1⟩ := ref05_Great l0 HSM.out hn
  have HGR := Aside0.mk (g1 K1 (Nat.le_refl _))
  clear g1 g0
  go_enter Tryd.func9, Tryd.ntmps9
  go_wp2_with fail
  refine (catchpitlaw11_wakes.calls K0 true w HG.out HW.out).mono ?_
  rintro e w1 ⟨rfl, b1⟩
  have B1 := Aside0.mk b1
  have HG1 := Aside0.mk (HG.out.below b1)
  have HR01 := Aside0.mk (Kd.C_below HR0.out b1)
  clear b1
  go_wp2_with fail
  refine (catchpitref05_Great.calls K1 A0 c0 l0 _ w1 HR01.out HC0.out HG1.out HGR.out).mono ?_
  rintro e w2 ⟨rfl, b2'⟩
  have b2 := b2'.below
  clear b2'
  have B2 := Aside0.mk (B1.out.trans (b2.mono B1.out.size))
  have HG2 := Aside0.mk (HG1.out.below b2)
  have HR02 := Aside0.mk (Kd.C_below HR01.out b2)
  clear b2
  by_cases hg : 2000 < sumF l0
  · rw [decide_eq_true hg]
    clear hg
    go_wp2
    go_ret
    exact ⟨rfl, B2.out⟩
  rw [decide_eq_false hg]
  have HSF := Aside0.mk (show sumF l0 ≤ 2000 by omega)
  clear hg
  by_cases h200 : 200 < m.size
  · have h200' : (200 : Int) < (m.size : Int) := by omega
    go_wp2
    go_ret
    exact ⟨rfl, B2.out⟩
  have h200' : decide ((200 : Int) < (m.size : Int)) = false := by simp; omega
  clear h200
  have hlen := sumF_length l0
  have hlen0 : l0.length ≤ 2000 := Nat.le_trans hlen HSF.out
  obtain ⟨K2, g2⟩ := ref05_Get l0 nTe HSM.out (by decide) (by omega)
  have HGT := Aside0.mk (g2 K2 (Nat.le_refl _))
  obtain ⟨K3, g3⟩ := ref05_Get l0 nCl HSM.out (by decide) (by omega)
  have HGC := Aside0.mk (g3 K3 (Nat.le_refl _))
  obtain ⟨K4, g4⟩ := request_ev l0 HSM.out (by have := HSF.out; omega)
  have HQ := Aside0.mk (g4 K4 (Nat.le_refl _))
  obtain ⟨K5, g5⟩ := response_ev m s l0 HSM.out (by have := HSF.out; omega)
  have HP := Aside0.mk (g5 K5 (Nat.le_refl _))
  have HBL := Aside0.mk (ref_bodiless m s)
  have n1 := never_req l0
  have n2 := never_resp m s l0
  rw [← getL_Te, ← getL_Cl] at n1 n2
  obtain ⟨f1, f2, f3, hf⟩ : ∃ f1 f2 f3, requestR l0 = (f1, f2, f3) := ⟨_, _, _, rfl⟩
  obtain ⟨p1, p2, p3, hp⟩ : ∃ f1 f2 f3, responseR m s l0 = (f1, f2, f3) := ⟨_, _, _, rfl⟩
  rw [hf] at n1 HQ
  rw [hp] at n2 HP
  have N1 := Aside0.mk n1
  have N2 := Aside0.mk n2
  clear g2 g3 g4 g5 hlen hf hp n1 n2 HGR HW hlen0 hn
  go_wp2_with fail
  refine (catchpitref05_Get.calls K2 A0 c0 l0 nTe _ w2 HR02.out HC0.out HG2.out HGT.out).mono ?_
  rintro e w3 ⟨v, rfl, hR, b3⟩
  obtain ⟨A3, c3, rfl, _, _⟩ := Kd.R_reads hR
  have B3 := Aside0.mk (B2.out.trans (b3.mono B2.out.size))
  have HG3 := Aside0.mk (HG2.out.below b3)
  have HR03 := Aside0.mk (Kd.C_below HR02.out b3)
  clear hR b3 HGT
  generalize getL l0 nTe = te at *
  go_wp2_with fail
  refine (catchpitref05_Get.calls K3 A0 c0 l0 nCl _ w3 HR03.out HC0.out HG3.out HGC.out).mono ?_
  rintro e w4 ⟨v, rfl, hR, b4⟩
  obtain ⟨A4, c4, rfl, _, _⟩ := Kd.R_reads hR
  have B4 := Aside0.mk (B3.out.trans (b4.mono B3.out.size))
  have HG4 := Aside0.mk (HG3.out.below b4)
  have HR04 := Aside0.mk (Kd.C_below HR03.out b4)
  clear hR b4 HGC
  generalize getL l0 nCl = cl at *
  go_wp2_with fail
  refine (framing_Request.calls K4 A0 c0 l0 f1 f2 f3 w4 HR04.out HC0.out HG4.out HQ.out).mono ?_
  rintro e w5 ⟨rfl, b5⟩
  have B5 := Aside0.mk (B4.out.trans (b5.mono B4.out.size))
  have HG5 := Aside0.mk (HG4.out.below b5)
  have HR05 := Aside0.mk (Kd.C_below HR04.out b5)
  clear b5 HQ
  have b5a := (Below.refl w5.heap.size w5).alloc (Nat.le_refl _) (.cells #[.int .i64 f1, .int .u64 f2] 57)
  have B5a := Aside0.mk (B5.out.alloc B5.out.size (.cells #[.int .i64 f1, .int .u64 f2] 57))
  have HG5a := Aside0.mk (HG5.out.below b5a)
  have HR05a := Aside0.mk (Kd.C_below HR05.out b5a)
  have y0 : (w5.alloc (.cells #[.int .i64 f1, .int .u64 f2] 57)).cell? ⟨w5.heap.size, 0, none⟩ = some (.int .i64 f1) := by simp
  clear b5a
  go_wp2_with fail
  refine (framing_Response.calls K5 m s A0 c0 l0 p1 p2 p3 _ HR05a.out HC0.out HG5a.out HP.out).mono ?_
  rintro e w6 ⟨rfl, b6⟩
  have B6 := Aside0.mk (B5a.out.trans (b6.mono B5a.out.size))
  have y6 := pw_cell_below b6 y0
  have B6a := Aside0.mk (B6.out.alloc B6.out.size (.cells #[.int .i64 p1, .int .u64 p2] 57))
  have y7 := pw_cell_below (below_alloc (Below.refl w6.heap.size w6) (.cells #[.int .i64 p1, .int .u64 p2] 57)) y6
  have HG6a := Aside0.mk (HG.out.below B6a.out)
  clear b6 HP y6 y0
  generalize te.length = nt at *
  generalize cl.length = nc at *
  by_cases ha : 0 < nt
  · have ha' : (0 : Int) < (nt : Int) := by omega
    have e1 : f1 ≠ 1 := fun h => by have := (N1.out.2 h).1; omega
    have e2 : p1 ≠ 1 := fun h => by have := (N2.out.2 h).1; omega
    have q1 : (f1 != 1) = true := by rw [bne_iff_ne]; exact e1
    have q2 : (p1 != 1) = true := by rw [bne_iff_ne]; exact e2
    by_cases hb : 0 < nc
    · have hb' : (0 : Int) < (nc : Int) := by omega
      have e3 : f3 = 2 := N1.out.1 ha hb
      subst e3
      by_cases h0 : p3 = 0
      · subst h0
        have e4 : bodyless m s = true := N2.out.1 ha hb rfl
        rw [e4] at HBL
        clear e1 e2 e4
        go_wp2_with fail
        refine (catchpitref11_Bodiless.calls m s true _ HG6a.out HBL.out).mono ?_
        rintro e w7 ⟨rfl, b7'⟩
        have b7 := b7'.below
        have y8 := pw_cell_below b7 y7
        have y9 := pw_cell_below b7 (show (w6.alloc (.cells #[.int .i64 p1, .int .u64 p2] 57)).cell? ⟨w6.heap.size, 0, none⟩ = some (.int .i64 p1) by simp)
        have B7 := Aside0.mk (B6a.out.trans (b7.mono B6a.out.size))
        clear b7 b7' y7
        go_wp2
        go_ret
        exact ⟨rfl, B7.out⟩
      · have q3 : (p3 == 0) = false := by rw [beq_eq_false_iff_ne]; exact h0
        clear e1 e2 h0
        go_wp2
        go_ret
        exact ⟨rfl, B6a.out⟩
    · obtain rfl : nc = 0 := by omega
      clear hb e1 e2
      go_wp2
      go_ret
      exact ⟨rfl, B6a.out⟩
  · obtain rfl : nt = 0 := by omega
    clear ha
    by_cases hb : 0 < nc
    · have hb' : (0 : Int) < (nc : Int) := by omega
      by_cases e1 : f1 = 1
      · subst e1
        by_cases e2 : p1 = 1
        · subst e2
          go_wp2
          go_ret
          exact ⟨rfl, B6a.out⟩
        · have q2 : (p1 != 1) = true := by rw [bne_iff_ne]; exact e2
          clear e2
          go_wp2
          go_ret
          exact ⟨rfl, B6a.out⟩
      · have q1 : (f1 != 1) = true := by rw [bne_iff_ne]; exact e1
        by_cases e2 : p1 = 1
        · subst e2
          clear e1
          go_wp2
          go_ret
          exact ⟨rfl, B6a.out⟩
        · have q2 : (p1 != 1) = true := by rw [bne_iff_ne]; exact e2
          clear e1 e2
          go_wp2
          go_ret
          exact ⟨rfl, B6a.out⟩
    · obtain rfl : nc = 0 := by omega
      have e1 : f1 ≠ 1 := fun h => by have := (N1.out.2 h).2; omega
      have e2 : p1 ≠ 1 := fun h => by have := (N2.out.2 h).2; omega
      have q1 : (f1 != 1) = true := by rw [bne_iff_ne]; exact e1
      have q2 : (p1 != 1) = true := by rw [bne_iff_ne]; exact e2
      clear hb e1 e2
      go_wp2
      go_ret
      exact ⟨rfl, B6a.out⟩
end Go.Proofs.YtoanmbhenmlboaaDoor.Ph
end
section
namespace Go.Proofs.YtoanmbhenmlboaaDoor.Ph
abbrev S71 := Go.Proofs.YtoanmbhenmlboaaDoor.Pr.S71
abbrev k71 := Go.Proofs.YtoanmbhenmlboaaDoor.Pr.k71
end Go.Proofs.YtoanmbhenmlboaaDoor.Ph
namespace Go.Proofs.YtoanmbhenmlboaaDoor.Pure
open Go.RowKit Go.Proofs.YtoanmbhenmlboaaDoorH Go.Proofs.YtoanmbhenmlboaaDoor.Ph Go.Proofs.YtoanmbhenmlboaaDoorW.PrintWords Go.Proofs.YtoanmbhenmlboaaDoorW.PrintLast
theorem FramingNeverBoth (m : ByteArray) (s : Int) (l : List Fld) (_hm : m.size ≤ 140737488351232) (_hs : (Lit.int .i64 s).wf = true) (hl : l.length * 32 ≤ 140737488351232 ∧ ∀ y ∈ l, (y.f0.size ≤ 140737488351232 ∧ y.f1.size ≤ 140737488351232)) : catchpitlaw11_FramingNeverBoth.f m s l = some true :=
  if_pos ⟨by omega, hl.2⟩
end Go.Proofs.YtoanmbhenmlboaaDoor.Pure
end
section
namespace Go.Proofs.YtoanmbhenmlboaaDoorH
open Go.RowKit Go.ChangeShapes Go.WideShapes Go.ChangeAt
theorem two_of {α : Type} {l : List α} (h : l.length = 2) : ∃ a b, l = [a, b] := by
  match l, h with
  | [a, b], _ => exact ⟨a, b, rfl⟩
theorem three_of {α : Type} {l : List α} (h : l.length = 3) : ∃ a b c, l = [a, b, c] := by
  match l, h with
  | [a, b, c], _ => exact ⟨a, b, c, rfl⟩
theorem six_of {α : Type} {l : List α} (h : l.length = 6) : ∃ a b c d e f, l = [a, b, c, d, e, f] := by
  match l, h with
  | [a, b, c, d, e, f], _ => exact ⟨a, b, c, d, e, f, rfl⟩
theorem cells_of_one {W : World} {cs : List Value} {y : DataW Unit × List MemPlace} {m : Nat} {x0 : Int}
    (hd : DataW.trod (fun _ => ()) Tryd.prog W 0 (fun _ => true) false m 5 cs = some y) (hy : y.1 = .lit (.int .u8 x0)) : cs = [.int .u8 x0] := by
  obtain ⟨n, e1, e2, _⟩ := DataW.trod_int Tryd.underlying5 hd
  rw [e2] at hy
  simp only [DataW.lit.injEq, Lit.int.injEq, true_and] at hy
  rw [e1, hy]
theorem cells_of_pair {W : World} {cs : List Value} {y : DataW Unit × List MemPlace} {m : Nat} {x0 x1 : Int}
    (hd : DataW.trod (fun _ => ()) Tryd.prog W 0 (fun _ => true) false m 114 cs = some y) (hy : y.1 = .agg [.lit (.int .u8 x0), .lit (.int .u8 x1)]) :
    cs = [.int .u8 x0, .int .u8 x1] := by
  have c5 : Tryd.prog.cellsOf 5 = 1 := by kernel_rfl
  have c2 : Tryd.prog.cellsOf 114 = 2 := by kernel_rfl
  obtain ⟨xs, m, _, ex, hn, hl, hel⟩ := DataW.trod_array Tryd.underlying114 hd
  rw [c2] at hn
  obtain ⟨a, b, rfl⟩ := two_of hn
  obtain ⟨u, v, rfl⟩ := two_of hl
  · rw [ex] at hy
    simp only [List.map_cons, List.map_nil, DataW.agg.injEq, List.cons.injEq, and_true] at hy
    have h0 := hel 0 (by omega)
    have h1 := hel 1 (by omega)
    simp only [c5] at h0 h1
    have e0 := cells_of_one (y := u) (by simpa using h0) hy.1
    have e1 := cells_of_one (y := v) (by simpa using h1) hy.2
    simp at e0 e1
    rw [e0, e1]
theorem cells_of_pairs {W : World} {cs : List Value} {y : DataW Unit × List MemPlace} {m : Nat} {x0 x1 x2 x3 x4 x5 : Int}
    (hd : DataW.trod (fun _ => ()) Tryd.prog W 0 (fun _ => true) false m 115 cs = some y)
    (hy : y.1 = .agg [.agg [.lit (.int .u8 x0), .lit (.int .u8 x1)], .agg [.lit (.int .u8 x2), .lit (.int .u8 x3)], .agg [.lit (.int .u8 x4), .lit (.int .u8 x5)]]) :
    cs = [.int .u8 x0, .int .u8 x1, .int .u8 x2, .int .u8 x3, .int .u8 x4, .int .u8 x5] := by
  have c2 : Tryd.prog.cellsOf 114 = 2 := by kernel_rfl
  have c6 : Tryd.prog.cellsOf 115 = 6 := by kernel_rfl
  obtain ⟨xs, m, _, ex, hn, hl, hel⟩ := DataW.trod_array Tryd.underlying115 hd
  rw [c6] at hn
  obtain ⟨a, b, c, d, e, f, rfl⟩ := six_of hn
  obtain ⟨u, v, z, rfl⟩ := three_of hl
  · rw [ex] at hy
    simp only [List.map_cons, List.map_nil, DataW.agg.injEq, List.cons.injEq, and_true] at hy
    have h0 := hel 0 (by omega)
    have h1 := hel 1 (by omega)
    have h2 := hel 2 (by omega)
    simp only [c2] at h0 h1 h2
    have e0 := cells_of_pair (y := u) (by simpa using h0) hy.1
    have e1 := cells_of_pair (y := v) (by simpa using h1) hy.2.1
    have e2 := cells_of_pair (y := z) (by simpa using h2) hy.2.2
    simp at e0 e1 e2
    rw [e0.1, e0.2, e1.1, e1.2, e2.1, e2.2]
theorem tabOk_of_laid {W : World} {L : List (String × DataW Unit)} (h : laidMetH Tryd.prog L W) (hp : (L.all fun x => x.2.handleName?.isNone) = true)
    (hf : L.filter (fun x => x.1 == "catchpit/octet.ends") = [("catchpit/octet.ends", Go.Proofs.YtoanmbhenmlboaaDoor.Rows.laid_catchpit_octet_ends)]) (hs : W.ShapedOpen Tryd.prog) : TabOk W := by
  rw [MakeChecks.laidMetH_plain _ _ _ hp] at h
  have h2 := laidMet.filter (fun x => x.1 == "catchpit/octet.ends") h
  rw [hf] at h2
  obtain ⟨ps, ⟨g, t, cs, fuel, p, q, hg, ht, hv, hd, _, _⟩, _, _⟩ := h2
  obtain rfl := Option.some.inj ((show Tryd.prog.globalNamed "catchpit/octet.ends" = some 0 by kernel_rfl).symm.trans hg)
  obtain rfl := Option.some.inj ((show (Tryd.prog.globals[0]?).map (·.type) = some 115 by kernel_rfl).symm.trans ht)
  have e := cells_of_pairs hd rfl
  have hc := World.var?_cell hg hv
  have at_ : ∀ j, cs[j]? = cs.toList[j]? := fun j => (Array.getElem?_toList ..).symm
  rw [e] at at_
  exact ⟨(hc 0).trans (at_ 0), (hc 1).trans (at_ 1), (hc 2).trans (at_ 2), (hc 3).trans (at_ 3), (hc 4).trans (at_ 4), (hc 5).trans (at_ 5), MxOk.of_shaped hs⟩
end Go.Proofs.YtoanmbhenmlboaaDoorH
end
section
namespace Go.Proofs.YtoanmbhenmlboaaDoorH
open Go.RowKit Go.ChangeShapes Go.WideShapes Go.ChangeAt Go.Proofs.YtoanmbhenmlboaaDoorW.PrintWords
def Light {H : Type} (P : Program) (t : TypeId) (d : DataW H) : Prop := ∀ x ∈ DataW.weights P t d, x ≤ reachBytes
structure Opens (P : Program) {α : Type} (d : Kd α) (t : TypeId) (G : α → Prop) : Prop where
  cells : P.cellsOf t = d.sz
  open_ : ∀ {H : Type} {enc : TypeId × Value → H} {W : World} {fuel : Nat} {cs : List Value} {x : DataW H × List MemPlace},
    DataW.trod enc P W 0 (fun _ => true) true fuel t cs = some x → Light P t x.1 → ∃ y, d.K W y cs ∧ G y
theorem Opens.int {P : Program} {t : TypeId} {k : IntKind} (hu : P.underlying t = some (.int k)) (hc : P.cellsOf t = 1) : Opens P (Kd.int k) t (fun n => (Lit.int k n).wf = true) := by
  refine ⟨hc, fun h _ => ?_⟩
  obtain ⟨n, e1, e2, wf⟩ := DataW.trod_int hu h
  exact ⟨n, e1, wf⟩
theorem Opens.bool {P : Program} {t : TypeId} (hu : P.underlying t = some .bool) (hc : P.cellsOf t = 1) : Opens P Kd.bool t (fun _ => True) := by
  refine ⟨hc, fun {_ _ _ fuel cs _} h _ => ?_⟩
  cases fuel with
  | zero => simp [DataW.trod] at h
  | succ m =>
    unfold DataW.trod at h
    rw [hu] at h
    match cs, h with
    | [.bool b], _ => exact ⟨b, rfl, trivial⟩
theorem Opens.string {P : Program} {t : TypeId} (hu : P.underlying t = some .string) (hc : P.cellsOf t = 1) : Opens P Kd.string t (fun s => s.size ≤ 140737488351232) := by
  refine ⟨hc, fun h hl => ?_⟩
  obtain ⟨s, e1, e2, _⟩ := DataW.trod_string hu h
  refine ⟨s, e1, ?_⟩
  subst e2
  have := hl s.data.toList.length (by simp [DataW.weights])
  rw [data_length] at this
  exact this
theorem weightsAll_mem {H : Type} (P : Program) (e : TypeId) : ∀ (l : List (DataW H)) (d : DataW H), d ∈ l → ∀ x ∈ DataW.weights P e d, x ∈ DataW.weightsAll P e l
  | [], d, h, _, _ => by cases h
  | a :: l, d, h, x, hx => by
    rw [DataW.weightsAll]
    rcases List.mem_cons.1 h with rfl | h
    · exact List.mem_append_left _ hx
    · exact List.mem_append_right _ (weightsAll_mem P e l d h x hx)
theorem list_of {α : Type} {p : Nat → α → Prop} : ∀ n : Nat, (∀ i, i < n → ∃ y, p i y) → ∃ l : List α, l.length = n ∧ ∀ i y, l[i]? = some y → p i y
  | 0, _ => ⟨[], rfl, fun i y h => by simp at h⟩
  | n + 1, h => by
    obtain ⟨l, hl, hp⟩ := list_of n (fun i hi => h i (by omega))
    obtain ⟨y, hy⟩ := h n (by omega)
    refine ⟨l ++ [y], by simp [hl], fun i z hz => ?_⟩
    rcases Nat.lt_or_ge i n with hi | hi
    · rw [List.getElem?_append_left (by omega)] at hz
      exact hp i z hz
    · rw [List.getElem?_append_right (by omega), hl] at hz
      rcases Nat.eq_zero_or_pos (i - n) with h0 | h0
      · rw [h0] at hz
        obtain rfl : i = n := by omega
        obtain rfl : y = z := by simpa using hz
        exact hy
      · rw [List.getElem?_eq_none (by simp; omega)] at hz
        cases hz
theorem add_add (a : Addr) (i j : Nat) : (a.add i).add j = a.add (i + j) := by
  unfold Addr.add
  by_cases h1 : i = 0
  · subst h1; simp
  · by_cases h2 : j = 0
    · subst h2; simp [h1]
    · simp [h1, h2, Nat.add_assoc]
theorem cells_at {W : World} {base : Nat} {a : Addr} {n : Nat} {cs : List Value} (h : W.cells? base a n = some cs) : cs.length = n ∧ ∀ (i : Nat) u, cs[i]? = some u → W.cell? (a.add i) = some u := by
  obtain ⟨_, hn, hc⟩ := World.cells?_some h
  refine ⟨hn, fun i u hu => ?_⟩
  have hi : i < n := by
    rcases Nat.lt_or_ge i n with hi | hi
    · exact hi
    · rw [List.getElem?_eq_none (by omega)] at hu; cases hu
  rw [hc i hi, hu]
theorem Opens.slice {P : Program} {α : Type} {d : Kd α} {t e : TypeId} {G : α → Prop} (h : Opens P d e G) (hu : P.underlying t = some (.slice e)) (hc : P.cellsOf t = 1) {B : Nat} (hB : P.bytesOf e = B) :
    Opens P (Kd.slice e d) t (fun l => l.length * B ≤ 140737488351232 ∧ ∀ y ∈ l, G y) := by
  refine ⟨hc, fun {H enc W fuel cs x} hx hl => ?_⟩
  rcases Deep.open_slice hu hx with ⟨rfl, rfl⟩ | ⟨a, len, cap, m, n, D, Pl, rfl, _, hle, hm, hmm, rfl, hel⟩
  · exact ⟨[], ⟨none, 0, rfl, Nat.le_refl _, rfl, by simp, fun h => by simp at h⟩, by simp, fun y hy => by cases hy⟩
  · simp only [if_true] at hmm
    subst hmm
    have hw : (len + (m - len)) * B ≤ 140737488351232 := by
      have := hl ((len + (m - len)) * B) (by
        unfold DataW.weights
        simp only [hu, hB]
        simp)
      exact this
    have hget : ∀ i, i < len → ∃ y, (∃ c, c.length = d.sz ∧ d.K W y c ∧ ∀ j u, c[j]? = some u → W.cell? (a.add (i * d.sz + j)) = some u) ∧ G y := by
      intro i hi
      obtain ⟨cs', h1, h2⟩ := hel i (by omega)
      obtain ⟨y, hy, hg⟩ := h.open_ h2 (fun x hx => hl x (by
        unfold DataW.weights
        simp only [hu]
        refine List.mem_cons_of_mem _ (List.mem_append_left _ (weightsAll_mem P e _ (D i) ?_ x hx))
        exact List.mem_map.2 ⟨i, List.mem_range.2 hi, rfl⟩))
      obtain ⟨hn, hcell⟩ := cells_at h1
      refine ⟨y, ⟨cs', by rw [hn, h.cells], hy, fun j u hj => ?_⟩, hg⟩
      have := hcell j u hj
      rw [add_add, h.cells] at this
      exact this
    obtain ⟨l, hll, hat⟩ := list_of len hget
    refine ⟨l, ⟨some a, m, by rw [hll], by omega, rfl, by rw [hll]; unfold maxLen at hm; omega, fun _ => ⟨a, rfl, fun j p hj => (hat j p hj).1⟩⟩, ?_, fun y hy => ?_⟩
    · rw [hll]
      exact Nat.le_trans (Nat.mul_le_mul_right _ (by omega)) hw
    · obtain ⟨i, hi, rfl⟩ := List.mem_iff_getElem.1 hy
      exact (hat i _ (List.getElem?_eq_getElem hi)).2
theorem weights_agg {H : Type} {P : Program} {t : TypeId} {fs : Array Field} (hu : P.underlying t = some (.struct fs)) (xs : List (DataW H)) : DataW.weights P t (.agg xs) = DataW.weightsEach P (fs.toList.map (·.type)) xs := by
  simp [DataW.weights, hu]
theorem light_of {H : Type} {P : Program} {ts : List TypeId} {ds : List (DataW H)} (h : (DataW.weightsEach P ts ds).all (· ≤ reachBytes) = true) {j : Nat} {t : TypeId} {d : DataW H} (ht : ts[j]? = some t) (hd : ds[j]? = some d) : Light P t d := fun x hx => by
  have := List.all_eq_true.1 h x (DataW.weights_mem_each ht hd x hx)
  simpa using this
theorem Opens.struct2 {P : Program} {α β : Type} {d0 : Kd α} {d1 : Kd β} {t : TypeId} {f0 f1 : Field} {G0 : α → Prop} {G1 : β → Prop} (h0 : Opens P d0 f0.type G0) (h1 : Opens P d1 f1.type G1) (hu : P.underlying t = some (.struct #[f0, f1]))
    (o0 : f0.offset = 0) (o1 : f1.offset = d0.sz) (hc : P.cellsOf t = d0.sz + d1.sz) : Opens P (Kd.pair d0 d1) t (fun x => G0 x.1 ∧ G1 x.2) := by
  refine ⟨hc, fun {H enc W fuel cs x} hx hl => ?_⟩
  obtain ⟨y0, y1, n, rfl, hn, e0, e1⟩ := trod_struct2 hu hx
  have hw : ∀ x, x ∈ DataW.weights P t (.agg [y0.1, y1.1]) → x ≤ reachBytes := hl
  rw [weights_agg hu] at hw
  obtain ⟨x0, k0, g0⟩ := h0.open_ e0 (fun x hx => hw x (DataW.weights_mem_each (j := 0) rfl rfl x hx))
  obtain ⟨x1, k1, g1⟩ := h1.open_ e1 (fun x hx => hw x (DataW.weights_mem_each (j := 1) rfl rfl x hx))
  refine ⟨(x0, x1), ⟨_, _, ?_, k0, k1⟩, g0, g1⟩
  rw [o0, o1, h0.cells, h1.cells, List.drop_zero]
  rw [hc] at hn
  have : (cs.drop d0.sz).take d1.sz = cs.drop d0.sz := List.take_of_length_le (by rw [List.length_drop]; omega)
  rw [this, List.take_append_drop]
theorem Opens.iso {P : Program} {α β : Type} {d : Kd α} {t : TypeId} {G : α → Prop} (h : Opens P d t G) (f : β → α) (g : α → β) (hfg : ∀ y, f (g y) = y) : Opens P (Kd.iso d f) t (fun x => G (f x)) := by
  refine ⟨h.cells, fun {H enc W fuel cs x} hx hl => ?_⟩
  obtain ⟨y, hk, hg⟩ := h.open_ hx hl
  exact ⟨g y, show d.K W (f (g y)) cs by rw [hfg]; exact hk, by rw [hfg]; exact hg⟩
end Go.Proofs.YtoanmbhenmlboaaDoorH
end
section
namespace Go.Proofs.YtoanmbhenmlboaaDoorH
open Go
variable {H : Type} {enc : TypeId × Value → H}
theorem returns_and_shaped {a : Assume} {C : Checked} {os : Os} {f : FuncId} {fn : Func} {s : ChangeSpec} {conds : List PathCond} {apart fresh handsOn again : Bool} {X : World → Array Value → Prop}
    (hX : ∀ (w w' : World) (args : Array Value), w.heap = w'.heap → X w args → X w' args)
    (own : ownKnob C.prog.godebug = none) (started : os.Started) (noInit : C.prog.inits.idxOf? f = none) (hfn : C.prog.funcs[f]? = some fn)
    (witness : ∃ (w : World) (tape : Tape) (i : Input), w.os = os ∧ (w.forCall tape i).Shaped C.prog ∧ i.vars = [] ∧ Input.okWide C.prog (w.forCall tape i) .any w.heap.size f i ∧
      ((s.pre enc C.prog fn conds apart (w.forCall tape i).memory i.args ∧ X (w.forCall tape i).memory i.args) ∧ sizedMet enc C.prog fn (OpenSpec.ofChange s) apart (w.forCall tape i).memory i.args) ∧ a.holds C.prog (lone (Frame.enter C.prog f i.args .normal) [] (w.forCall tape i)))
    (contract : ∀ (W : World) (base : Nat) (args : Array Value) (ds gs : List (DataW H)) (before : List MemPlace),
      (∀ (j : Nat) t v, fn.params[j]? = some t → args[j]? = some v → Value.okWide C.prog W .any base t v) →
      DataW.Whole enc C.prog fn.params.toList s.vars apart W args.toList ds gs before →
      conds.all (PathCond.test C.prog ⟨fn.params.toList, ds, s.plain.varTypes C.prog, gs⟩) = true →
      (DataW.weightsEach C.prog (fn.params.toList ++ s.plain.varTypes C.prog) (ds ++ gs)).all (· ≤ reachBytes) = true → X W args →
      W.ShapedOpen C.prog →
      a.holds C.prog (lone (Frame.enter C.prog f args .normal) [] W) →
      Calls C.prog f args W fun e W' => ∃ v, e = .returned v ∧ s.post enc C.prog fn apart fresh handsOn again W args v W') :
    ReturnsInHanded a C os f .any (fun w args => (s.pre enc C.prog fn conds apart w args ∧ X w args) ∧ sizedMet enc C.prog fn (OpenSpec.ofChange s) apart w args) (s.post enc C.prog fn apart fresh handsOn again) := by
  refine returnsInHanded_of_calls own started noInit witness ?_
  intro w tape i _ hsh _ hok hpre hholds
  obtain ⟨_, _, _, fn', hfn', _, _, _, _, hval⟩ := hok
  have e : fn' = fn := Option.some.inj (hfn'.symm.trans hfn)
  subst e
  obtain ⟨⟨⟨ds, gs, before, hw, hc⟩, hx⟩, hz⟩ := hpre
  have hw' := DataW.Whole.of_heap (w' := w.forCall tape i) (by rfl) hw
  refine (contract (w.forCall tape i) w.heap.size i.args ds gs before hval hw' hc (hz.weights hw) (hX _ _ _ (by rfl) hx) hsh hholds).mono fun e W' ⟨v, he, hp⟩ => ?_
  subst he
  exact ChangeSpec.post_blind hp
end Go.Proofs.YtoanmbhenmlboaaDoorH
end
