import Derived.Test.YtoanmbhenmlboaaDoorZExpectNeverP3
import Derived.Test.YtoanmbhenmlboaaDoorZExpectNeverP1
import Derived.Test.YtoanmbhenmlboaaDoorRows
import Derived.LaidSub
import Derived.MakeChecks
import Derived.ProofKit
import Derived.OpenShut
import Derived.LaidMore
section
namespace Go.Proofs.YtoanmbhenmlboaaDoor.Pr
open Go.RowKit Go.Proofs.YtoanmbhenmlboaaDoorH Go.Proofs.YtoanmbhenmlboaaDoorW.PrintWords Go.Proofs.YtoanmbhenmlboaaDoorW.PrintLast Go.Proofs.YtoanmbhenmlboaaDoorW.PrintMore
attribute [local go_sem] max2_int min2_int max_two min_two max_three min_three max_four min_four   -- for this text's walks alone
set_option linter.unusedVariables false
set_option linter.unusedSimpArgs false
def catchpitref05_Great.l0 : Nat → List (S71) → Int → Int → Option (Bool)
  | 0, _, _, _ => none
  | k + 1, x0, x3, x4 => if x4 < (x0.length : Int) then (if x3 ≤ 2000 then (if 0 ≤ x4 then (catchpitref05_Great.l0 k x0 (wrap64 ((wrap64 ((wrap64 (x3 + (((rd_T71 x0 x4).f0).size : Int))) + (((rd_T71 x0 x4).f1).size : Int))) + 1)) (wrap64 (x4 + 1))) else (none)) else (some (decide (x3 > 2000)))) else (some (decide (x3 > 2000)))
def catchpitref05_Great.f (k : Nat) (l0 : List (S71)) : Option (Bool) := catchpitref05_Great.l0 k l0 0 0
theorem catchpitref05_Great.mono_l : ∀ k, (∀ y0 y1 y2, LeO (catchpitref05_Great.l0 k y0 y1 y2) (catchpitref05_Great.l0 (k + 1) y0 y1 y2))
  | 0 => fun _ _ _ r h => by simp [catchpitref05_Great.l0] at h
  | k + 1 => by
    have ih0 := catchpitref05_Great.mono_l k
    · intro y0 y1 y2
      unfold catchpitref05_Great.l0
      repeat' first
      | (with_reducible exact ih0 _ _ _)
      | (with_reducible exact LeO.refl _)
      | (with_reducible exact LeO.none _)
      | (with_reducible refine LeO.ite ?_ ?_)
      | (with_reducible refine LeO.bind ?_ (fun _ => ?_))
      | exact ih0 _ _ _
      | exact LeO.none _
      | refine LeO.ite ?_ ?_
      | refine LeO.bind ?_ (fun _ => ?_)
theorem catchpitref05_Great.mono : ∀ a0 k, LeO (catchpitref05_Great.f k a0) (catchpitref05_Great.f (k + 1) a0) := by
  intro a0 k
  have ih0 := catchpitref05_Great.mono_l k
  unfold catchpitref05_Great.f
  repeat' first
      | (with_reducible exact ih0 _ _ _)
      | (with_reducible exact LeO.refl _)
      | (with_reducible exact LeO.none _)
      | (with_reducible refine LeO.ite ?_ ?_)
      | (with_reducible refine LeO.bind ?_ (fun _ => ?_))
      | exact ih0 _ _ _
      | exact LeO.none _
      | refine LeO.ite ?_ ?_
      | refine LeO.bind ?_ (fun _ => ?_)
def list_word.f (a0 : ByteArray) : Option (ByteArray) := (strings_Cut.f a0 (⟨#[59]⟩ : ByteArray)).bind fun bt103 => ((octet_Trim.f bt103.1).bind fun t106 => (some t106))
set_option maxHeartbeats 8000000 in
set_option maxRecDepth 100000 in
theorem list_word.calls (a0 : ByteArray) (r : ByteArray) (w : World) (hG : TabOk w) (h : list_word.f a0 = some r) :
    Calls Tryd.prog 59 #[.string a0] w fun e w' => e = .returned (.string r) ∧ Below w.heap.size w w' := by
  have HB := Aside0.mk (Below.refl w.heap.size w)
  have H : ((strings_Cut.f a0 (⟨#[59]⟩ : ByteArray)).bind fun bt103 => ((octet_Trim.f bt103.1).bind fun t106 => (some t106))) = some r := h
  clear h
  replace H := Option.bind_eq_some_iff.mp H
  obtain ⟨⟨t103, t104, t105⟩, A20, H⟩ := H
  replace H : ((octet_Trim.f t103).bind fun t106 => (some t106)) = some r := H
  have A2 := Aside0.mk A20
  clear A20
  replace H := Option.bind_eq_some_iff.mp H
  obtain ⟨t106, A30, H⟩ := H
  replace H : (some t106) = some r := H
  have A3 := Aside0.mk A30
  clear A30
  obtain rfl := Option.some.inj H
  go_enter Tryd.func59, Tryd.ntmps59
  go_wp2_with (first | ((with_reducible refine gate_callee (f := 76) rfl ?_); refine goesL_ (some 8) rfl rfl Tryd.func76 (by kernel_rfl) rfl #[.string a0, .string (⟨#[59]⟩ : ByteArray)] rfl (by (try simp only [List.map_toArray, List.map_cons, List.map_nil]); first | done | rfl | (simp only [List.length_drop, List.length_take]; rfl)) ?_; (with_reducible refine (strings_Cut.calls a0 (⟨#[59]⟩ : ByteArray) t103 t104 t105 _ ?side1 A2.out).mono ?_); (case side1 => first | exact hG | exact TabOk.drewN hG _ | exact TabOk.drewN (TabOk.drewN hG _) _ | exact TabOk.below hG (by repeat (first | (with_reducible first | exact HB.out | apply below_alloc | apply pw_below_drewN | apply below_drew1) | exact HB.out))); rintro e w4 ⟨rfl, hb⟩; refine ⟨_, rfl, ?_⟩; have n0_ := Aside0.mk (below_step (by repeat (first | (with_reducible first | exact HB.out | apply below_alloc | apply pw_below_drewN | apply below_drew1) | exact HB.out)) hb); clear HB; have HB := n0_; clear n0_; (try clear hb); (try clear hb2); (try clear hk); (try clear hi)) | ((with_reducible refine gate_callee (f := 75) rfl ?_); refine goesL_ (some 13) rfl rfl Tryd.func75 (by kernel_rfl) rfl #[.string t103] rfl (by (try simp only [List.map_toArray, List.map_cons, List.map_nil]); first | done | rfl | (simp only [List.length_drop, List.length_take]; rfl)) ?_; (with_reducible refine (octet_Trim.calls t103 t106 _ ?side1 A3.out).mono ?_); (case side1 => first | exact hG | exact TabOk.drewN hG _ | exact TabOk.drewN (TabOk.drewN hG _) _ | exact TabOk.below hG (by repeat (first | (with_reducible first | exact HB.out | apply below_alloc | apply pw_below_drewN | apply below_drew1) | exact HB.out))); rintro e w5 ⟨rfl, hb⟩; refine ⟨_, rfl, ?_⟩; have n0_ := Aside0.mk (below_step (by repeat (first | (with_reducible first | exact HB.out | apply below_alloc | apply pw_below_drewN | apply below_drew1) | exact HB.out)) hb); clear HB; have HB := n0_; clear n0_; (try clear hb); (try clear hb2); (try clear hk); (try clear hi)))
  go_ret
  exact ⟨by first | rfl | (simp [errW_none, errW_some] <;> rfl) | (simp [*, errW_none, errW_some] <;> rfl), by repeat (first | (with_reducible first | exact HB.out | apply below_alloc | apply pw_below_drewN | apply below_drew1) | exact HB.out)⟩
def framing_codings.f (l0 : List (S71)) : Option (List ByteArray × Bool × Int) := (field_Get.f l0 (⟨#[84, 114, 97, 110, 115, 102, 101, 114, 45, 69, 110, 99, 111, 100, 105, 110, 103]⟩ : ByteArray)).bind fun t108 => (if (t108.length : Int) = 0 then (some (([] : List ByteArray), false, 0)) else ((list_Codings.f t108).bind fun bt111 => ((field_Get.f l0 (⟨#[67, 111, 110, 116, 101, 110, 116, 45, 76, 101, 110, 103, 116, 104]⟩ : ByteArray)).bind fun t115 => (if (t115.length : Int) > 0 then (some (bt111.1, true, 2)) else (some (bt111.1, true, bt111.2))))))
def slices_Index_int_int.l0 : Nat → List Int → Int → Int → Int → Option (Int)
  | 0, _, _, _, _ => none
  | k + 1, x0, x1, x7, x8 => if x8 < x7 then (if 0 ≤ x8 then (if x8 < (x0.length : Int) then (if x1 = (rd x0 x8) then (some x8) else (slices_Index_int_int.l0 k x0 x1 x7 (wrap64 (x8 + 1)))) else (none)) else (none)) else (some (-1))
def slices_Index_int_int.f (k : Nat) (l0 : List Int) (a1 : Int) : Option (Int) := slices_Index_int_int.l0 k l0 a1 (l0.length : Int) 0
theorem slices_Index_int_int.mono_l : ∀ k, (∀ y0 y1 y2 y3, LeO (slices_Index_int_int.l0 k y0 y1 y2 y3) (slices_Index_int_int.l0 (k + 1) y0 y1 y2 y3))
  | 0 => fun _ _ _ _ r h => by simp [slices_Index_int_int.l0] at h
  | k + 1 => by
    have ih0 := slices_Index_int_int.mono_l k
    · intro y0 y1 y2 y3
      unfold slices_Index_int_int.l0
      repeat' first
      | (with_reducible exact ih0 _ _ _ _)
      | (with_reducible exact LeO.refl _)
      | (with_reducible exact LeO.none _)
      | (with_reducible refine LeO.ite ?_ ?_)
      | (with_reducible refine LeO.bind ?_ (fun _ => ?_))
      | exact ih0 _ _ _ _
      | exact LeO.none _
      | refine LeO.ite ?_ ?_
      | refine LeO.bind ?_ (fun _ => ?_)
theorem slices_Index_int_int.mono : ∀ a0 a1 k, LeO (slices_Index_int_int.f k a0 a1) (slices_Index_int_int.f (k + 1) a0 a1) := by
  intro a0 a1 k
  have ih0 := slices_Index_int_int.mono_l k
  unfold slices_Index_int_int.f
  repeat' first
      | (with_reducible exact ih0 _ _ _ _)
      | (with_reducible exact LeO.refl _)
      | (with_reducible exact LeO.none _)
      | (with_reducible refine LeO.ite ?_ ?_)
      | (with_reducible refine LeO.bind ?_ (fun _ => ?_))
      | exact ih0 _ _ _ _
      | exact LeO.none _
      | refine LeO.ite ?_ ?_
      | refine LeO.bind ?_ (fun _ => ?_)
def slices_Contains_int_int.f (k : Nat) (l0 : List Int) (a1 : Int) : Option (Bool) := (slices_Index_int_int.f k l0 a1).bind fun t119 => (some (decide (t119 ≥ 0)))
theorem slices_Contains_int_int.mono : ∀ a0 a1 k, LeO (slices_Contains_int_int.f k a0 a1) (slices_Contains_int_int.f (k + 1) a0 a1) := by
  intro a0 a1 k
  unfold slices_Contains_int_int.f
  repeat' first
      | (with_reducible exact slices_Index_int_int.mono _ _ _)
      | (with_reducible exact LeO.refl _)
      | (with_reducible exact LeO.none _)
      | (with_reducible refine LeO.ite ?_ ?_)
      | (with_reducible refine LeO.bind ?_ (fun _ => ?_))
      | exact slices_Index_int_int.mono _ _ _
      | exact LeO.none _
      | refine LeO.ite ?_ ?_
      | refine LeO.bind ?_ (fun _ => ?_)
def framing_sized.f (l0 : List (S71)) (a1 : Int) : Option (Int × Int × Int) := (field_Get.f l0 (⟨#[67, 111, 110, 116, 101, 110, 116, 45, 76, 101, 110, 103, 116, 104]⟩ : ByteArray)).bind fun t121 => ((list_Length.f t121).bind fun bt124 => (if bt124.2 = 0 then (some (1, bt124.1, bt124.2)) else (if bt124.2 = 7 then (some (a1, 0, 0)) else (some (0, 0, bt124.2)))))
def slices_Equal_string_string.l0 : Nat → List ByteArray → List ByteArray → Int → Int → Option (Bool)
  | 0, _, _, _, _ => none
  | k + 1, x0, x1, x12, x13 => if x13 < x12 then (if 0 ≤ x13 then (if x13 < (x0.length : Int) then (if x13 < (x1.length : Int) then (if (rdOf ByteArray.empty x0 x13).toList = (rdOf ByteArray.empty x1 x13).toList then (slices_Equal_string_string.l0 k x0 x1 x12 (wrap64 (x13 + 1))) else (some false)) else (none)) else (none)) else (none)) else (some true)
def slices_Equal_string_string.f (k : Nat) (l0 : List ByteArray) (l1 : List ByteArray) : Option (Bool) := if (l0.length : Int) = (l1.length : Int) then (slices_Equal_string_string.l0 k l0 l1 (l0.length : Int) 0) else (some false)
theorem slices_Equal_string_string.mono_l : ∀ k, (∀ y0 y1 y2 y3, LeO (slices_Equal_string_string.l0 k y0 y1 y2 y3) (slices_Equal_string_string.l0 (k + 1) y0 y1 y2 y3))
  | 0 => fun _ _ _ _ r h => by simp [slices_Equal_string_string.l0] at h
  | k + 1 => by
    have ih0 := slices_Equal_string_string.mono_l k
    · intro y0 y1 y2 y3
      unfold slices_Equal_string_string.l0
      repeat' first
      | (with_reducible exact ih0 _ _ _ _)
      | (with_reducible exact LeO.refl _)
      | (with_reducible exact LeO.none _)
      | (with_reducible refine LeO.ite ?_ ?_)
      | (with_reducible refine LeO.bind ?_ (fun _ => ?_))
      | exact ih0 _ _ _ _
      | exact LeO.none _
      | refine LeO.ite ?_ ?_
      | refine LeO.bind ?_ (fun _ => ?_)
theorem slices_Equal_string_string.mono : ∀ a0 a1 k, LeO (slices_Equal_string_string.f k a0 a1) (slices_Equal_string_string.f (k + 1) a0 a1) := by
  intro a0 a1 k
  have ih0 := slices_Equal_string_string.mono_l k
  unfold slices_Equal_string_string.f
  repeat' first
      | (with_reducible exact ih0 _ _ _ _)
      | (with_reducible exact LeO.refl _)
      | (with_reducible exact LeO.none _)
      | (with_reducible refine LeO.ite ?_ ?_)
      | (with_reducible refine LeO.bind ?_ (fun _ => ?_))
      | exact ih0 _ _ _ _
      | exact LeO.none _
      | refine LeO.ite ?_ ?_
      | refine LeO.bind ?_ (fun _ => ?_)
def framing_Request.f (k : Nat) (l0 : List (S71)) : Option (Int × Int × Int) := (framing_codings.f l0).bind fun bt129 => (if bt129.2.1 = true then (if bt129.2.2 = 0 then ((slices_Equal_string_string.f k bt129.1 (([(⟨#[99, 104, 117, 110, 107, 101, 100]⟩ : ByteArray)] : List ByteArray))).bind fun t141 => (if t141 = true then (some (2, 0, 0)) else (some (0, 0, 2)))) else (some (0, 0, 2))) else ((framing_sized.f l0 0).bind fun bt135 => (some (bt135.1, bt135.2.1, bt135.2.2))))
theorem framing_Request.mono : ∀ a0 k, LeO (framing_Request.f k a0) (framing_Request.f (k + 1) a0) := by
  intro a0 k
  unfold framing_Request.f
  repeat' first
      | (with_reducible exact slices_Equal_string_string.mono _ _ _)
      | (with_reducible exact LeO.refl _)
      | (with_reducible exact LeO.none _)
      | (with_reducible refine LeO.ite ?_ ?_)
      | (with_reducible refine LeO.bind ?_ (fun _ => ?_))
      | exact slices_Equal_string_string.mono _ _ _
      | exact LeO.none _
      | refine LeO.ite ?_ ?_
      | refine LeO.bind ?_ (fun _ => ?_)
end Go.Proofs.YtoanmbhenmlboaaDoor.Pr
end
section
namespace Go.Proofs.YtoanmbhenmlboaaDoor.Pr
open Go.RowKit Go.Proofs.YtoanmbhenmlboaaDoorH Go.Proofs.YtoanmbhenmlboaaDoorW.PrintWords Go.Proofs.YtoanmbhenmlboaaDoorW.PrintLast Go.Proofs.YtoanmbhenmlboaaDoorW.PrintMore
attribute [local go_sem] max2_int min2_int max_two min_two max_three min_three max_four min_four   -- for this text's walks alone
set_option linter.unusedVariables false
set_option linter.unusedSimpArgs false
mutual
def framing_Bodiless.j0 : Nat → ByteArray → Int → Bool → Option (Bool)
  | 0, _, _, _ => none
  | k + 1, x0, x1, x5 => if x5 = true then (framing_Bodiless.j1 k x0 x1 x5) else (if x1 = 204 then (framing_Bodiless.j1 k x0 x1 (x1 == 204)) else (framing_Bodiless.j1 k x0 x1 (x1 == 304)))
def framing_Bodiless.j1 : Nat → ByteArray → Int → Bool → Option (Bool)
  | 0, _, _, _ => none
  | k + 1, x0, x1, x5 => if x5 = true then (some true) else (if x1 ≥ 200 then (if x1 ≤ 299 then (if x0.toList = ([67, 79, 78, 78, 69, 67, 84] : List UInt8) then (some true) else (some (x0.toList == ([72, 69, 65, 68] : List UInt8)))) else (some (x0.toList == ([72, 69, 65, 68] : List UInt8)))) else (some (x0.toList == ([72, 69, 65, 68] : List UInt8))))
end
def framing_Bodiless.f (k : Nat) (a0 : ByteArray) (a1 : Int) : Option (Bool) := if a1 ≥ 100 then (framing_Bodiless.j0 k a0 a1 (decide (a1 ≤ 199))) else (framing_Bodiless.j0 k a0 a1 false)
theorem framing_Bodiless.mono_l : ∀ k, (∀ y0 y1 y2, LeO (framing_Bodiless.j0 k y0 y1 y2) (framing_Bodiless.j0 (k + 1) y0 y1 y2)) ∧ (∀ y0 y1 y2, LeO (framing_Bodiless.j1 k y0 y1 y2) (framing_Bodiless.j1 (k + 1) y0 y1 y2))
  | 0 => ⟨fun _ _ _ r h => by simp [framing_Bodiless.j0] at h, fun _ _ _ r h => by simp [framing_Bodiless.j1] at h⟩
  | k + 1 => by
    obtain ⟨ih0, ih1⟩ := framing_Bodiless.mono_l k
    refine ⟨?_, ?_⟩
    · intro y0 y1 y2
      unfold framing_Bodiless.j0
      repeat' first
      | (with_reducible exact ih0 _ _ _)
      | (with_reducible exact ih1 _ _ _)
      | (with_reducible exact LeO.refl _)
      | (with_reducible exact LeO.none _)
      | (with_reducible refine LeO.ite ?_ ?_)
      | (with_reducible refine LeO.bind ?_ (fun _ => ?_))
      | exact ih0 _ _ _
      | exact ih1 _ _ _
      | exact LeO.none _
      | refine LeO.ite ?_ ?_
      | refine LeO.bind ?_ (fun _ => ?_)
    · intro y0 y1 y2
      unfold framing_Bodiless.j1
      repeat' first
      | (with_reducible exact ih0 _ _ _)
      | (with_reducible exact ih1 _ _ _)
      | (with_reducible exact LeO.refl _)
      | (with_reducible exact LeO.none _)
      | (with_reducible refine LeO.ite ?_ ?_)
      | (with_reducible refine LeO.bind ?_ (fun _ => ?_))
      | exact ih0 _ _ _
      | exact ih1 _ _ _
      | exact LeO.none _
      | refine LeO.ite ?_ ?_
      | refine LeO.bind ?_ (fun _ => ?_)
theorem framing_Bodiless.mono : ∀ a0 a1 k, LeO (framing_Bodiless.f k a0 a1) (framing_Bodiless.f (k + 1) a0 a1) := by
  intro a0 a1 k
  obtain ⟨ih0, ih1⟩ := framing_Bodiless.mono_l k
  unfold framing_Bodiless.f
  repeat' first
      | (with_reducible exact ih0 _ _ _)
      | (with_reducible exact ih1 _ _ _)
      | (with_reducible exact LeO.refl _)
      | (with_reducible exact LeO.none _)
      | (with_reducible refine LeO.ite ?_ ?_)
      | (with_reducible refine LeO.bind ?_ (fun _ => ?_))
      | exact ih0 _ _ _
      | exact ih1 _ _ _
      | exact LeO.none _
      | refine LeO.ite ?_ ?_
      | refine LeO.bind ?_ (fun _ => ?_)
def slices_Index_string_string.l0 : Nat → List ByteArray → ByteArray → Int → Int → Option (Int)
  | 0, _, _, _, _ => none
  | k + 1, x0, x1, x7, x8 => if x8 < x7 then (if 0 ≤ x8 then (if x8 < (x0.length : Int) then (if x1.toList = (rdOf ByteArray.empty x0 x8).toList then (some x8) else (slices_Index_string_string.l0 k x0 x1 x7 (wrap64 (x8 + 1)))) else (none)) else (none)) else (some (-1))
def slices_Index_string_string.f (k : Nat) (l0 : List ByteArray) (a1 : ByteArray) : Option (Int) := slices_Index_string_string.l0 k l0 a1 (l0.length : Int) 0
theorem slices_Index_string_string.mono_l : ∀ k, (∀ y0 y1 y2 y3, LeO (slices_Index_string_string.l0 k y0 y1 y2 y3) (slices_Index_string_string.l0 (k + 1) y0 y1 y2 y3))
  | 0 => fun _ _ _ _ r h => by simp [slices_Index_string_string.l0] at h
  | k + 1 => by
    have ih0 := slices_Index_string_string.mono_l k
    · intro y0 y1 y2 y3
      unfold slices_Index_string_string.l0
      repeat' first
      | (with_reducible exact ih0 _ _ _ _)
      | (with_reducible exact LeO.refl _)
      | (with_reducible exact LeO.none _)
      | (with_reducible refine LeO.ite ?_ ?_)
      | (with_reducible refine LeO.bind ?_ (fun _ => ?_))
      | exact ih0 _ _ _ _
      | exact LeO.none _
      | refine LeO.ite ?_ ?_
      | refine LeO.bind ?_ (fun _ => ?_)
theorem slices_Index_string_string.mono : ∀ a0 a1 k, LeO (slices_Index_string_string.f k a0 a1) (slices_Index_string_string.f (k + 1) a0 a1) := by
  intro a0 a1 k
  have ih0 := slices_Index_string_string.mono_l k
  unfold slices_Index_string_string.f
  repeat' first
      | (with_reducible exact ih0 _ _ _ _)
      | (with_reducible exact LeO.refl _)
      | (with_reducible exact LeO.none _)
      | (with_reducible refine LeO.ite ?_ ?_)
      | (with_reducible refine LeO.bind ?_ (fun _ => ?_))
      | exact ih0 _ _ _ _
      | exact LeO.none _
      | refine LeO.ite ?_ ?_
      | refine LeO.bind ?_ (fun _ => ?_)
mutual
def framing_Response.j0 : Nat → ByteArray → Int → List (S71) → Bool → Option (Int × Int × Int)
  | 0, _, _, _, _ => none
  | k + 1, x0, x1, x2, x10 => if x10 = true then (some (0, 0, 1)) else ((framing_Bodiless.f k x0 x1).bind fun t144 => (if t144 = true then (some (0, 0, 0)) else ((framing_codings.f x2).bind fun bt145 => (if bt145.2.1 = true then ((slices_Index_string_string.f k bt145.1 (⟨#[99, 104, 117, 110, 107, 101, 100]⟩ : ByteArray)).bind fun t154 => (if bt145.2.2 = 0 then (if t154 ≥ 0 then (framing_Response.j1 k t154 (decide (t154 < (wrap64 ((bt145.1.length : Int) - 1))))) else (framing_Response.j1 k t154 false)) else (framing_Response.j1 k t154 (bt145.2.2 != 0)))) else ((framing_sized.f x2 3).bind fun bt151 => (some (bt151.1, bt151.2.1, bt151.2.2)))))))
def framing_Response.j1 : Nat → Int → Bool → Option (Int × Int × Int)
  | 0, _, _ => none
  | k + 1, x9, x35 => if x35 = true then (some (0, 0, 2)) else (if x9 < 0 then (some (3, 0, 0)) else (if x9 > 0 then (some (0, 0, 5)) else (some (2, 0, 0))))
end
def framing_Response.f (k : Nat) (a0 : ByteArray) (a1 : Int) (l2 : List (S71)) : Option (Int × Int × Int) := if a1 < 100 then (framing_Response.j0 k a0 a1 l2 true) else (framing_Response.j0 k a0 a1 l2 (decide (a1 > 999)))
theorem framing_Response.mono_l : ∀ k, (∀ y0 y1 y2 y3, LeO (framing_Response.j0 k y0 y1 y2 y3) (framing_Response.j0 (k + 1) y0 y1 y2 y3)) ∧ (∀ y0 y1, LeO (framing_Response.j1 k y0 y1) (framing_Response.j1 (k + 1) y0 y1))
  | 0 => ⟨fun _ _ _ _ r h => by simp [framing_Response.j0] at h, fun _ _ r h => by simp [framing_Response.j1] at h⟩
  | k + 1 => by
    obtain ⟨ih0, ih1⟩ := framing_Response.mono_l k
    refine ⟨?_, ?_⟩
    · intro y0 y1 y2 y3
      unfold framing_Response.j0
      repeat' first
      | (with_reducible exact ih0 _ _ _ _)
      | (with_reducible exact ih1 _ _)
      | (with_reducible exact framing_Bodiless.mono _ _ _)
      | (with_reducible exact slices_Index_string_string.mono _ _ _)
      | (with_reducible exact LeO.refl _)
      | (with_reducible exact LeO.none _)
      | (with_reducible refine LeO.ite ?_ ?_)
      | (with_reducible refine LeO.bind ?_ (fun _ => ?_))
      | exact ih0 _ _ _ _
      | exact ih1 _ _
      | exact framing_Bodiless.mono _ _ _
      | exact slices_Index_string_string.mono _ _ _
      | exact LeO.none _
      | refine LeO.ite ?_ ?_
      | refine LeO.bind ?_ (fun _ => ?_)
    · intro y0 y1
      unfold framing_Response.j1
      repeat' first
      | (with_reducible exact ih0 _ _ _ _)
      | (with_reducible exact ih1 _ _)
      | (with_reducible exact framing_Bodiless.mono _ _ _)
      | (with_reducible exact slices_Index_string_string.mono _ _ _)
      | (with_reducible exact LeO.refl _)
      | (with_reducible exact LeO.none _)
      | (with_reducible refine LeO.ite ?_ ?_)
      | (with_reducible refine LeO.bind ?_ (fun _ => ?_))
      | exact ih0 _ _ _ _
      | exact ih1 _ _
      | exact framing_Bodiless.mono _ _ _
      | exact slices_Index_string_string.mono _ _ _
      | exact LeO.none _
      | refine LeO.ite ?_ ?_
      | refine LeO.bind ?_ (fun _ => ?_)
theorem framing_Response.mono : ∀ a0 a1 a2 k, LeO (framing_Response.f k a0 a1 a2) (framing_Response.f (k + 1) a0 a1 a2) := by
  intro a0 a1 a2 k
  obtain ⟨ih0, ih1⟩ := framing_Response.mono_l k
  unfold framing_Response.f
  repeat' first
      | (with_reducible exact ih0 _ _ _ _)
      | (with_reducible exact ih1 _ _)
      | (with_reducible exact framing_Bodiless.mono _ _ _)
      | (with_reducible exact slices_Index_string_string.mono _ _ _)
      | (with_reducible exact LeO.refl _)
      | (with_reducible exact LeO.none _)
      | (with_reducible refine LeO.ite ?_ ?_)
      | (with_reducible refine LeO.bind ?_ (fun _ => ?_))
      | exact ih0 _ _ _ _
      | exact ih1 _ _
      | exact framing_Bodiless.mono _ _ _
      | exact slices_Index_string_string.mono _ _ _
      | exact LeO.none _
      | refine LeO.ite ?_ ?_
      | refine LeO.bind ?_ (fun _ => ?_)
def catchpitlaw11_wakes.f (k : Nat)  : Option (Bool) := (framing_Request.f k (([(⟨(⟨#[84, 114, 97, 110, 115, 102, 101, 114, 45, 69, 110, 99, 111, 100, 105, 110, 103]⟩ : ByteArray), (⟨#[99, 104, 117, 110, 107, 101, 100]⟩ : ByteArray)⟩ : S71), (⟨(⟨#[67, 111, 110, 116, 101, 110, 116, 45, 76, 101, 110, 103, 116, 104]⟩ : ByteArray), (⟨#[53]⟩ : ByteArray)⟩ : S71)] : List (S71)))).bind fun bt158 => ((framing_Response.f k (⟨#[71, 69, 84]⟩ : ByteArray) 204 ([] : List (S71))).bind fun bt162 => (if bt158.2.2 = 2 then (if bt162.1 = 0 then (some (bt162.2.2 == 0)) else (some false)) else (some false)))
theorem catchpitlaw11_wakes.mono : ∀ k, LeO (catchpitlaw11_wakes.f k ) (catchpitlaw11_wakes.f (k + 1) ) := by
  intro  k
  unfold catchpitlaw11_wakes.f
  repeat' first
      | (with_reducible exact framing_Request.mono _ _)
      | (with_reducible exact framing_Response.mono _ _ _ _)
      | (with_reducible exact LeO.refl _)
      | (with_reducible exact LeO.none _)
      | (with_reducible refine LeO.ite ?_ ?_)
      | (with_reducible refine LeO.bind ?_ (fun _ => ?_))
      | exact framing_Request.mono _ _
      | exact framing_Response.mono _ _ _ _
      | exact LeO.none _
      | refine LeO.ite ?_ ?_
      | refine LeO.bind ?_ (fun _ => ?_)
end Go.Proofs.YtoanmbhenmlboaaDoor.Pr
end
section
namespace Go.Proofs.YtoanmbhenmlboaaDoor.Pr
open Go.RowKit Go.Proofs.YtoanmbhenmlboaaDoorH Go.Proofs.YtoanmbhenmlboaaDoorW.PrintWords Go.Proofs.YtoanmbhenmlboaaDoorW.PrintLast Go.Proofs.YtoanmbhenmlboaaDoorW.PrintMore
attribute [local go_sem] max2_int min2_int max_two min_two max_three min_three max_four min_four   -- for this text's walks alone
set_option linter.unusedVariables false
set_option linter.unusedSimpArgs false
def catchpitref02_Small.l0 : Nat → ByteArray → List Int → Int → Option (ByteArray)
  | 0, _, _, _ => none
  | k + 1, x0, x3, x4 => if x4 < (x0.size : Int) then (if 0 ≤ x4 then (if (bt x0 x4) ≥ 65 then (if (bt x0 x4) ≤ 90 then (if x3.length < 140737488355328 then (catchpitref02_Small.l0 k x0 (x3 ++ [((bt x0 x4) + 32) % 256]) (wrap64 (x4 + 1))) else (none)) else (if x3.length < 140737488355328 then (catchpitref02_Small.l0 k x0 (x3 ++ [bt x0 x4]) (wrap64 (x4 + 1))) else (none))) else (if x3.length < 140737488355328 then (catchpitref02_Small.l0 k x0 (x3 ++ [bt x0 x4]) (wrap64 (x4 + 1))) else (none))) else (none)) else (some (strOfNums x3))
def catchpitref02_Small.f (k : Nat) (a0 : ByteArray) : Option (ByteArray) := catchpitref02_Small.l0 k a0 ([] : List Int) 0
theorem catchpitref02_Small.mono_l : ∀ k, (∀ y0 y1 y2, LeO (catchpitref02_Small.l0 k y0 y1 y2) (catchpitref02_Small.l0 (k + 1) y0 y1 y2))
  | 0 => fun _ _ _ r h => by simp [catchpitref02_Small.l0] at h
  | k + 1 => by
    have ih0 := catchpitref02_Small.mono_l k
    · intro y0 y1 y2
      unfold catchpitref02_Small.l0
      repeat' first
      | (with_reducible exact ih0 _ _ _)
      | (with_reducible exact LeO.refl _)
      | (with_reducible exact LeO.none _)
      | (with_reducible refine LeO.ite ?_ ?_)
      | (with_reducible refine LeO.bind ?_ (fun _ => ?_))
      | exact ih0 _ _ _
      | exact LeO.none _
      | refine LeO.ite ?_ ?_
      | refine LeO.bind ?_ (fun _ => ?_)
theorem catchpitref02_Small.mono : ∀ a0 k, LeO (catchpitref02_Small.f k a0) (catchpitref02_Small.f (k + 1) a0) := by
  intro a0 k
  have ih0 := catchpitref02_Small.mono_l k
  unfold catchpitref02_Small.f
  repeat' first
      | (with_reducible exact ih0 _ _ _)
      | (with_reducible exact LeO.refl _)
      | (with_reducible exact LeO.none _)
      | (with_reducible refine LeO.ite ?_ ?_)
      | (with_reducible refine LeO.bind ?_ (fun _ => ?_))
      | exact ih0 _ _ _
      | exact LeO.none _
      | refine LeO.ite ?_ ?_
      | refine LeO.bind ?_ (fun _ => ?_)
def catchpitref05_Is.f (k : Nat) (a0_0 : ByteArray) (a0_1 : ByteArray) (a1 : ByteArray) : Option (Bool) := (catchpitref02_Small.f k a0_0).bind fun t176 => ((catchpitref02_Small.f k a1).bind fun t177 => (some (t176.toList == t177.toList)))
theorem catchpitref05_Is.mono : ∀ a0 a1 a2 k, LeO (catchpitref05_Is.f k a0 a1 a2) (catchpitref05_Is.f (k + 1) a0 a1 a2) := by
  intro a0 a1 a2 k
  unfold catchpitref05_Is.f
  repeat' first
      | (with_reducible exact catchpitref02_Small.mono _ _)
      | (with_reducible exact LeO.refl _)
      | (with_reducible exact LeO.none _)
      | (with_reducible refine LeO.ite ?_ ?_)
      | (with_reducible refine LeO.bind ?_ (fun _ => ?_))
      | exact catchpitref02_Small.mono _ _
      | exact LeO.none _
      | refine LeO.ite ?_ ?_
      | refine LeO.bind ?_ (fun _ => ?_)
def catchpitref05_Get.l0 : Nat → List (S71) → ByteArray → List ByteArray → Int → Option (List ByteArray)
  | 0, _, _, _, _ => none
  | k + 1, x0, x1, x5, x6 => if x6 < (x0.length : Int) then (if 0 ≤ x6 then ((catchpitref05_Is.f k ((rd_T71 x0 x6).f0) ((rd_T71 x0 x6).f1) x1).bind fun t179 => (if t179 = true then (if x5.length < 8796093022208 then (catchpitref05_Get.l0 k x0 x1 (x5 ++ [(rd_T71 x0 x6).f1]) (wrap64 (x6 + 1))) else (none)) else (catchpitref05_Get.l0 k x0 x1 x5 (wrap64 (x6 + 1))))) else (none)) else (some x5)
def catchpitref05_Get.f (k : Nat) (l0 : List (S71)) (a1 : ByteArray) : Option (List ByteArray) := catchpitref05_Get.l0 k l0 a1 ([] : List ByteArray) 0
theorem catchpitref05_Get.mono_l : ∀ k, (∀ y0 y1 y2 y3, LeO (catchpitref05_Get.l0 k y0 y1 y2 y3) (catchpitref05_Get.l0 (k + 1) y0 y1 y2 y3))
  | 0 => fun _ _ _ _ r h => by simp [catchpitref05_Get.l0] at h
  | k + 1 => by
    have ih0 := catchpitref05_Get.mono_l k
    · intro y0 y1 y2 y3
      unfold catchpitref05_Get.l0
      repeat' first
      | (with_reducible exact ih0 _ _ _ _)
      | (with_reducible exact catchpitref05_Is.mono _ _ _ _)
      | (with_reducible exact LeO.refl _)
      | (with_reducible exact LeO.none _)
      | (with_reducible refine LeO.ite ?_ ?_)
      | (with_reducible refine LeO.bind ?_ (fun _ => ?_))
      | exact ih0 _ _ _ _
      | exact catchpitref05_Is.mono _ _ _ _
      | exact LeO.none _
      | refine LeO.ite ?_ ?_
      | refine LeO.bind ?_ (fun _ => ?_)
theorem catchpitref05_Get.mono : ∀ a0 a1 k, LeO (catchpitref05_Get.f k a0 a1) (catchpitref05_Get.f (k + 1) a0 a1) := by
  intro a0 a1 k
  have ih0 := catchpitref05_Get.mono_l k
  unfold catchpitref05_Get.f
  repeat' first
      | (with_reducible exact ih0 _ _ _ _)
      | (with_reducible exact catchpitref05_Is.mono _ _ _ _)
      | (with_reducible exact LeO.refl _)
      | (with_reducible exact LeO.none _)
      | (with_reducible refine LeO.ite ?_ ?_)
      | (with_reducible refine LeO.bind ?_ (fun _ => ?_))
      | exact ih0 _ _ _ _
      | exact catchpitref05_Is.mono _ _ _ _
      | exact LeO.none _
      | refine LeO.ite ?_ ?_
      | refine LeO.bind ?_ (fun _ => ?_)
def catchpitref07_cut.l0 : Nat → ByteArray → Int → List ByteArray → Int → Int → Option (List ByteArray)
  | 0, _, _, _, _, _ => none
  | k + 1, x0, x1, x5, x6, x7 => if x7 ≤ (x0.size : Int) then (if x7 = (x0.size : Int) then (if 0 ≤ x6 then (if x6 ≤ x7 then (if x5.length < 8796093022208 then (catchpitref07_cut.l0 k x0 x1 (x5 ++ [x0.extract (x6 : Int).toNat (x7 : Int).toNat]) (wrap64 (x7 + 1)) (wrap64 (x7 + 1))) else (none)) else (none)) else (none)) else (if 0 ≤ x7 then (if x7 < (x0.size : Int) then (if (bt x0 x7) = x1 then (if 0 ≤ x6 then (if x6 ≤ x7 then (if x5.length < 8796093022208 then (catchpitref07_cut.l0 k x0 x1 (x5 ++ [x0.extract (x6 : Int).toNat (x7 : Int).toNat]) (wrap64 (x7 + 1)) (wrap64 (x7 + 1))) else (none)) else (none)) else (none)) else (catchpitref07_cut.l0 k x0 x1 x5 x6 (wrap64 (x7 + 1)))) else (none)) else (none))) else (some x5)
def catchpitref07_cut.f (k : Nat) (a0 : ByteArray) (a1 : Int) : Option (List ByteArray) := catchpitref07_cut.l0 k a0 a1 ([] : List ByteArray) 0 0
theorem catchpitref07_cut.mono_l : ∀ k, (∀ y0 y1 y2 y3 y4, LeO (catchpitref07_cut.l0 k y0 y1 y2 y3 y4) (catchpitref07_cut.l0 (k + 1) y0 y1 y2 y3 y4))
  | 0 => fun _ _ _ _ _ r h => by simp [catchpitref07_cut.l0] at h
  | k + 1 => by
    have ih0 := catchpitref07_cut.mono_l k
    · intro y0 y1 y2 y3 y4
      unfold catchpitref07_cut.l0
      repeat' first
      | (with_reducible exact ih0 _ _ _ _ _)
      | (with_reducible exact LeO.refl _)
      | (with_reducible exact LeO.none _)
      | (with_reducible refine LeO.ite ?_ ?_)
      | (with_reducible refine LeO.bind ?_ (fun _ => ?_))
      | exact ih0 _ _ _ _ _
      | exact LeO.none _
      | refine LeO.ite ?_ ?_
      | refine LeO.bind ?_ (fun _ => ?_)
theorem catchpitref07_cut.mono : ∀ a0 a1 k, LeO (catchpitref07_cut.f k a0 a1) (catchpitref07_cut.f (k + 1) a0 a1) := by
  intro a0 a1 k
  have ih0 := catchpitref07_cut.mono_l k
  unfold catchpitref07_cut.f
  repeat' first
      | (with_reducible exact ih0 _ _ _ _ _)
      | (with_reducible exact LeO.refl _)
      | (with_reducible exact LeO.none _)
      | (with_reducible refine LeO.ite ?_ ?_)
      | (with_reducible refine LeO.bind ?_ (fun _ => ?_))
      | exact ih0 _ _ _ _ _
      | exact LeO.none _
      | refine LeO.ite ?_ ?_
      | refine LeO.bind ?_ (fun _ => ?_)
def catchpitref02_blank.f (a0 : Int) : Option (Bool) := if a0 = 32 then (some true) else (some (a0 == 9))
end Go.Proofs.YtoanmbhenmlboaaDoor.Pr
end
section
namespace Go.Proofs.YtoanmbhenmlboaaDoor.Pr
open Go.RowKit Go.Proofs.YtoanmbhenmlboaaDoorH Go.Proofs.YtoanmbhenmlboaaDoorW.PrintWords Go.Proofs.YtoanmbhenmlboaaDoorW.PrintLast Go.Proofs.YtoanmbhenmlboaaDoorW.PrintMore
attribute [local go_sem] max2_int min2_int max_two min_two max_three min_three max_four min_four   -- for this text's walks alone
set_option linter.unusedVariables false
set_option linter.unusedSimpArgs false
mutual
def catchpitref02_Trim.j1 : Nat → ByteArray → Option (ByteArray)
  | 0, _ => none
  | k + 1, x0 => catchpitref02_Trim.l1 k x0
def catchpitref02_Trim.l1 : Nat → ByteArray → Option (ByteArray)
  | 0, _ => none
  | k + 1, x0 => if (x0.size : Int) > 0 then (if 0 ≤ (wrap64 ((x0.size : Int) - 1)) then (if (wrap64 ((x0.size : Int) - 1)) < (x0.size : Int) then ((catchpitref02_blank.f (bt x0 (wrap64 ((x0.size : Int) - 1)))).bind fun t191 => (if t191 = true then (if (wrap64 ((x0.size : Int) - 1)) ≤ (x0.size : Int) then (catchpitref02_Trim.l1 k (x0.extract 0 ((wrap64 ((x0.size : Int) - 1)) : Int).toNat)) else (none)) else (some x0))) else (none)) else (none)) else (some x0)
def catchpitref02_Trim.l0 : Nat → ByteArray → Option (ByteArray)
  | 0, _ => none
  | k + 1, x0 => if (x0.size : Int) > 0 then (if 0 < (x0.size : Int) then ((catchpitref02_blank.f (bt x0 0)).bind fun t190 => (if t190 = true then (if 1 ≤ (x0.size : Int) then (catchpitref02_Trim.l0 k (x0.extract 1 x0.size)) else (none)) else (catchpitref02_Trim.j1 k x0))) else (none)) else (catchpitref02_Trim.j1 k x0)
end
def catchpitref02_Trim.f (k : Nat) (a0 : ByteArray) : Option (ByteArray) := catchpitref02_Trim.l0 k a0
theorem catchpitref02_Trim.mono_l : ∀ k, (∀ y0, LeO (catchpitref02_Trim.j1 k y0) (catchpitref02_Trim.j1 (k + 1) y0)) ∧ (∀ y0, LeO (catchpitref02_Trim.l1 k y0) (catchpitref02_Trim.l1 (k + 1) y0)) ∧ (∀ y0, LeO (catchpitref02_Trim.l0 k y0) (catchpitref02_Trim.l0 (k + 1) y0))
  | 0 => ⟨fun _ r h => by simp [catchpitref02_Trim.j1] at h, fun _ r h => by simp [catchpitref02_Trim.l1] at h, fun _ r h => by simp [catchpitref02_Trim.l0] at h⟩
  | k + 1 => by
    obtain ⟨ih0, ih1, ih2⟩ := catchpitref02_Trim.mono_l k
    refine ⟨?_, ?_, ?_⟩
    · intro y0
      unfold catchpitref02_Trim.j1
      repeat' first
      | (with_reducible exact ih0 _)
      | (with_reducible exact ih1 _)
      | (with_reducible exact ih2 _)
      | (with_reducible exact LeO.refl _)
      | (with_reducible exact LeO.none _)
      | (with_reducible refine LeO.ite ?_ ?_)
      | (with_reducible refine LeO.bind ?_ (fun _ => ?_))
      | exact ih0 _
      | exact ih1 _
      | exact ih2 _
      | exact LeO.none _
      | refine LeO.ite ?_ ?_
      | refine LeO.bind ?_ (fun _ => ?_)
    · intro y0
      unfold catchpitref02_Trim.l1
      repeat' first
      | (with_reducible exact ih0 _)
      | (with_reducible exact ih1 _)
      | (with_reducible exact ih2 _)
      | (with_reducible exact LeO.refl _)
      | (with_reducible exact LeO.none _)
      | (with_reducible refine LeO.ite ?_ ?_)
      | (with_reducible refine LeO.bind ?_ (fun _ => ?_))
      | exact ih0 _
      | exact ih1 _
      | exact ih2 _
      | exact LeO.none _
      | refine LeO.ite ?_ ?_
      | refine LeO.bind ?_ (fun _ => ?_)
    · intro y0
      unfold catchpitref02_Trim.l0
      repeat' first
      | (with_reducible exact ih0 _)
      | (with_reducible exact ih1 _)
      | (with_reducible exact ih2 _)
      | (with_reducible exact LeO.refl _)
      | (with_reducible exact LeO.none _)
      | (with_reducible refine LeO.ite ?_ ?_)
      | (with_reducible refine LeO.bind ?_ (fun _ => ?_))
      | exact ih0 _
      | exact ih1 _
      | exact ih2 _
      | exact LeO.none _
      | refine LeO.ite ?_ ?_
      | refine LeO.bind ?_ (fun _ => ?_)
theorem catchpitref02_Trim.mono : ∀ a0 k, LeO (catchpitref02_Trim.f k a0) (catchpitref02_Trim.f (k + 1) a0) := by
  intro a0 k
  obtain ⟨ih0, ih1, ih2⟩ := catchpitref02_Trim.mono_l k
  unfold catchpitref02_Trim.f
  repeat' first
      | (with_reducible exact ih0 _)
      | (with_reducible exact ih1 _)
      | (with_reducible exact ih2 _)
      | (with_reducible exact LeO.refl _)
      | (with_reducible exact LeO.none _)
      | (with_reducible refine LeO.ite ?_ ?_)
      | (with_reducible refine LeO.bind ?_ (fun _ => ?_))
      | exact ih0 _
      | exact ih1 _
      | exact ih2 _
      | exact LeO.none _
      | refine LeO.ite ?_ ?_
      | refine LeO.bind ?_ (fun _ => ?_)
mutual
def catchpitref07_Items.l0 : Nat → List ByteArray → List ByteArray → Int → Option (List ByteArray)
  | 0, _, _, _ => none
  | k + 1, x0, x3, x4 => if x4 < (x0.length : Int) then (if 0 ≤ x4 then ((catchpitref07_cut.f k (rdOf ByteArray.empty x0 x4) 44).bind fun t193 => (catchpitref07_Items.l1 k x0 x3 x4 t193 0)) else (none)) else (some x3)
def catchpitref07_Items.l1 : Nat → List ByteArray → List ByteArray → Int → List ByteArray → Int → Option (List ByteArray)
  | 0, _, _, _, _, _ => none
  | k + 1, x0, x3, x4, x5, x6 => if x6 < (x5.length : Int) then (if 0 ≤ x6 then ((catchpitref02_Trim.f k (rdOf ByteArray.empty x5 x6)).bind fun t197 => (if (t197.size : Int) > 0 then (if x3.length < 8796093022208 then (catchpitref07_Items.l1 k x0 (x3 ++ [t197]) x4 x5 (wrap64 (x6 + 1))) else (none)) else (catchpitref07_Items.l1 k x0 x3 x4 x5 (wrap64 (x6 + 1))))) else (none)) else (catchpitref07_Items.l0 k x0 x3 (wrap64 (x4 + 1)))
end
def catchpitref07_Items.f (k : Nat) (l0 : List ByteArray) : Option (List ByteArray) := catchpitref07_Items.l0 k l0 ([] : List ByteArray) 0
theorem catchpitref07_Items.mono_l : ∀ k, (∀ y0 y1 y2, LeO (catchpitref07_Items.l0 k y0 y1 y2) (catchpitref07_Items.l0 (k + 1) y0 y1 y2)) ∧ (∀ y0 y1 y2 y3 y4, LeO (catchpitref07_Items.l1 k y0 y1 y2 y3 y4) (catchpitref07_Items.l1 (k + 1) y0 y1 y2 y3 y4))
  | 0 => ⟨fun _ _ _ r h => by simp [catchpitref07_Items.l0] at h, fun _ _ _ _ _ r h => by simp [catchpitref07_Items.l1] at h⟩
  | k + 1 => by
    obtain ⟨ih0, ih1⟩ := catchpitref07_Items.mono_l k
    refine ⟨?_, ?_⟩
    · intro y0 y1 y2
      unfold catchpitref07_Items.l0
      repeat' first
      | (with_reducible exact ih0 _ _ _)
      | (with_reducible exact ih1 _ _ _ _ _)
      | (with_reducible exact catchpitref02_Trim.mono _ _)
      | (with_reducible exact catchpitref07_cut.mono _ _ _)
      | (with_reducible exact LeO.refl _)
      | (with_reducible exact LeO.none _)
      | (with_reducible refine LeO.ite ?_ ?_)
      | (with_reducible refine LeO.bind ?_ (fun _ => ?_))
      | exact ih0 _ _ _
      | exact ih1 _ _ _ _ _
      | exact catchpitref02_Trim.mono _ _
      | exact catchpitref07_cut.mono _ _ _
      | exact LeO.none _
      | refine LeO.ite ?_ ?_
      | refine LeO.bind ?_ (fun _ => ?_)
    · intro y0 y1 y2 y3 y4
      unfold catchpitref07_Items.l1
      repeat' first
      | (with_reducible exact ih0 _ _ _)
      | (with_reducible exact ih1 _ _ _ _ _)
      | (with_reducible exact catchpitref02_Trim.mono _ _)
      | (with_reducible exact catchpitref07_cut.mono _ _ _)
      | (with_reducible exact LeO.refl _)
      | (with_reducible exact LeO.none _)
      | (with_reducible refine LeO.ite ?_ ?_)
      | (with_reducible refine LeO.bind ?_ (fun _ => ?_))
      | exact ih0 _ _ _
      | exact ih1 _ _ _ _ _
      | exact catchpitref02_Trim.mono _ _
      | exact catchpitref07_cut.mono _ _ _
      | exact LeO.none _
      | refine LeO.ite ?_ ?_
      | refine LeO.bind ?_ (fun _ => ?_)
theorem catchpitref07_Items.mono : ∀ a0 k, LeO (catchpitref07_Items.f k a0) (catchpitref07_Items.f (k + 1) a0) := by
  intro a0 k
  obtain ⟨ih0, ih1⟩ := catchpitref07_Items.mono_l k
  unfold catchpitref07_Items.f
  repeat' first
      | (with_reducible exact ih0 _ _ _)
      | (with_reducible exact ih1 _ _ _ _ _)
      | (with_reducible exact catchpitref02_Trim.mono _ _)
      | (with_reducible exact catchpitref07_cut.mono _ _ _)
      | (with_reducible exact LeO.refl _)
      | (with_reducible exact LeO.none _)
      | (with_reducible refine LeO.ite ?_ ?_)
      | (with_reducible refine LeO.bind ?_ (fun _ => ?_))
      | exact ih0 _ _ _
      | exact ih1 _ _ _ _ _
      | exact catchpitref02_Trim.mono _ _
      | exact catchpitref07_cut.mono _ _ _
      | exact LeO.none _
      | refine LeO.ite ?_ ?_
      | refine LeO.bind ?_ (fun _ => ?_)
end Go.Proofs.YtoanmbhenmlboaaDoor.Pr
end
section
namespace Go.Proofs.YtoanmbhenmlboaaDoor.Pr
open Go.RowKit Go.Proofs.YtoanmbhenmlboaaDoorH Go.Proofs.YtoanmbhenmlboaaDoorW.PrintWords Go.Proofs.YtoanmbhenmlboaaDoorW.PrintLast Go.Proofs.YtoanmbhenmlboaaDoorW.PrintMore
attribute [local go_sem] max2_int min2_int max_two min_two max_three min_three max_four min_four   -- for this text's walks alone
set_option linter.unusedVariables false
set_option linter.unusedSimpArgs false
mutual
def catchpitref07_Number.l0 : Nat → ByteArray → Int → Int → Option (Int × Int)
  | 0, _, _, _ => none
  | k + 1, x0, x4, x5 => if x5 < (x0.size : Int) then (if 0 ≤ x5 then (if (bt x0 x5) < 48 then (catchpitref07_Number.j1 k x0 x4 x5 true) else (catchpitref07_Number.j1 k x0 x4 x5 (decide ((bt x0 x5) > 57)))) else (none)) else (if (wrap64 ((x0.size : Int) - x4)) > 19 then (some (0, 3)) else (catchpitref07_Number.l1 k x0 0 x4))
def catchpitref07_Number.j1 : Nat → ByteArray → Int → Int → Bool → Option (Int × Int)
  | 0, _, _, _, _ => none
  | k + 1, x0, x4, x5, x26 => if x26 = true then (some (0, 2)) else (if 0 ≤ x5 then (if x5 < (x0.size : Int) then (if (bt x0 x5) = 48 then (if x4 = x5 then (if x5 < (wrap64 ((x0.size : Int) - 1)) then (catchpitref07_Number.l0 k x0 (wrap64 (x4 + 1)) (wrap64 (x5 + 1))) else (catchpitref07_Number.l0 k x0 x4 (wrap64 (x5 + 1)))) else (catchpitref07_Number.l0 k x0 x4 (wrap64 (x5 + 1)))) else (catchpitref07_Number.l0 k x0 x4 (wrap64 (x5 + 1)))) else (none)) else (none))
def catchpitref07_Number.l1 : Nat → ByteArray → Int → Int → Option (Int × Int)
  | 0, _, _, _ => none
  | k + 1, x0, x6, x7 => if x7 < (x0.size : Int) then (if 0 ≤ x7 then (catchpitref07_Number.l1 k x0 (IntKind.u64.wrap ((IntKind.u64.wrap (10 * x6)) + (((bt x0 x7) - 48) % 256))) (wrap64 (x7 + 1))) else (none)) else (if x6 > 4611686018427387903 then (some (0, 3)) else (some (x6, 0)))
end
def catchpitref07_Number.f (k : Nat) (a0 : ByteArray) : Option (Int × Int) := if (a0.size : Int) = 0 then (some (0, 2)) else (catchpitref07_Number.l0 k a0 0 0)
theorem catchpitref07_Number.mono_l : ∀ k, (∀ y0 y1 y2, LeO (catchpitref07_Number.l0 k y0 y1 y2) (catchpitref07_Number.l0 (k + 1) y0 y1 y2)) ∧ (∀ y0 y1 y2 y3, LeO (catchpitref07_Number.j1 k y0 y1 y2 y3) (catchpitref07_Number.j1 (k + 1) y0 y1 y2 y3)) ∧ (∀ y0 y1 y2, LeO (catchpitref07_Number.l1 k y0 y1 y2) (catchpitref07_Number.l1 (k + 1) y0 y1 y2))
  | 0 => ⟨fun _ _ _ r h => by simp [catchpitref07_Number.l0] at h, fun _ _ _ _ r h => by simp [catchpitref07_Number.j1] at h, fun _ _ _ r h => by simp [catchpitref07_Number.l1] at h⟩
  | k + 1 => by
    obtain ⟨ih0, ih1, ih2⟩ := catchpitref07_Number.mono_l k
    refine ⟨?_, ?_, ?_⟩
    · intro y0 y1 y2
      unfold catchpitref07_Number.l0
      repeat' first
      | (with_reducible exact ih0 _ _ _)
      | (with_reducible exact ih1 _ _ _ _)
      | (with_reducible exact ih2 _ _ _)
      | (with_reducible exact LeO.refl _)
      | (with_reducible exact LeO.none _)
      | (with_reducible refine LeO.ite ?_ ?_)
      | (with_reducible refine LeO.bind ?_ (fun _ => ?_))
      | exact ih0 _ _ _
      | exact ih1 _ _ _ _
      | exact ih2 _ _ _
      | exact LeO.none _
      | refine LeO.ite ?_ ?_
      | refine LeO.bind ?_ (fun _ => ?_)
    · intro y0 y1 y2 y3
      unfold catchpitref07_Number.j1
      repeat' first
      | (with_reducible exact ih0 _ _ _)
      | (with_reducible exact ih1 _ _ _ _)
      | (with_reducible exact ih2 _ _ _)
      | (with_reducible exact LeO.refl _)
      | (with_reducible exact LeO.none _)
      | (with_reducible refine LeO.ite ?_ ?_)
      | (with_reducible refine LeO.bind ?_ (fun _ => ?_))
      | exact ih0 _ _ _
      | exact ih1 _ _ _ _
      | exact ih2 _ _ _
      | exact LeO.none _
      | refine LeO.ite ?_ ?_
      | refine LeO.bind ?_ (fun _ => ?_)
    · intro y0 y1 y2
      unfold catchpitref07_Number.l1
      repeat' first
      | (with_reducible exact ih0 _ _ _)
      | (with_reducible exact ih1 _ _ _ _)
      | (with_reducible exact ih2 _ _ _)
      | (with_reducible exact LeO.refl _)
      | (with_reducible exact LeO.none _)
      | (with_reducible refine LeO.ite ?_ ?_)
      | (with_reducible refine LeO.bind ?_ (fun _ => ?_))
      | exact ih0 _ _ _
      | exact ih1 _ _ _ _
      | exact ih2 _ _ _
      | exact LeO.none _
      | refine LeO.ite ?_ ?_
      | refine LeO.bind ?_ (fun _ => ?_)
theorem catchpitref07_Number.mono : ∀ a0 k, LeO (catchpitref07_Number.f k a0) (catchpitref07_Number.f (k + 1) a0) := by
  intro a0 k
  obtain ⟨ih0, ih1, ih2⟩ := catchpitref07_Number.mono_l k
  unfold catchpitref07_Number.f
  repeat' first
      | (with_reducible exact ih0 _ _ _)
      | (with_reducible exact ih1 _ _ _ _)
      | (with_reducible exact ih2 _ _ _)
      | (with_reducible exact LeO.refl _)
      | (with_reducible exact LeO.none _)
      | (with_reducible refine LeO.ite ?_ ?_)
      | (with_reducible refine LeO.bind ?_ (fun _ => ?_))
      | exact ih0 _ _ _
      | exact ih1 _ _ _ _
      | exact ih2 _ _ _
      | exact LeO.none _
      | refine LeO.ite ?_ ?_
      | refine LeO.bind ?_ (fun _ => ?_)
end Go.Proofs.YtoanmbhenmlboaaDoor.Pr
end
section
namespace Go.Proofs.YtoanmbhenmlboaaDoor.Pr
open Go.RowKit Go.Proofs.YtoanmbhenmlboaaDoorH Go.Proofs.YtoanmbhenmlboaaDoorW.PrintWords Go.Proofs.YtoanmbhenmlboaaDoorW.PrintLast Go.Proofs.YtoanmbhenmlboaaDoorW.PrintMore
attribute [local go_sem] max2_int min2_int max_two min_two max_three min_three max_four min_four   -- for this text's walks alone
set_option linter.unusedVariables false
set_option linter.unusedSimpArgs false
mutual
def catchpitref07_Length.l0 : Nat → List ByteArray → Bool → Bool → Int → Int → Option (Int × Int)
  | 0, _, _, _, _, _ => none
  | k + 1, x0, x4, x5, x6, x7 => if x7 < (x0.length : Int) then (if 0 ≤ x7 then (if x7 ≤ (wrap64 (x7 + 1)) then (if (wrap64 (x7 + 1)) ≤ (x0.length : Int) then ((catchpitref07_Items.f k ((x0.take ((wrap64 (x7 + 1)) : Int).toNat).drop (x7 : Int).toNat)).bind fun t202 => (if (t202.length : Int) = 0 then (some (0, 2)) else (catchpitref07_Length.l1 k x0 x4 x5 x6 x7 t202 0))) else (none)) else (none)) else (none)) else (if x4 = true then (some (0, 3)) else (if x5 = true then (some (x6, 0)) else (some (0, 2))))
def catchpitref07_Length.l1 : Nat → List ByteArray → Bool → Bool → Int → Int → List ByteArray → Int → Option (Int × Int)
  | 0, _, _, _, _, _, _, _ => none
  | k + 1, x0, x4, x5, x6, x7, x8, x9 => if x9 < (x8.length : Int) then (if 0 ≤ x9 then ((catchpitref07_Number.f k (rdOf ByteArray.empty x8 x9)).bind fun bt206 => (if bt206.2 = 2 then (some (0, 2)) else (if bt206.2 = 3 then (if (wrap64 (x7 + x9)) > 0 then (if bt206.1 = x6 then (catchpitref07_Length.l1 k x0 true x5 bt206.1 x7 x8 (wrap64 (x9 + 1))) else (catchpitref07_Length.l1 k x0 true false bt206.1 x7 x8 (wrap64 (x9 + 1)))) else (catchpitref07_Length.l1 k x0 true x5 bt206.1 x7 x8 (wrap64 (x9 + 1)))) else (if (wrap64 (x7 + x9)) > 0 then (if bt206.1 = x6 then (catchpitref07_Length.l1 k x0 x4 x5 bt206.1 x7 x8 (wrap64 (x9 + 1))) else (catchpitref07_Length.l1 k x0 x4 false bt206.1 x7 x8 (wrap64 (x9 + 1)))) else (catchpitref07_Length.l1 k x0 x4 x5 bt206.1 x7 x8 (wrap64 (x9 + 1))))))) else (none)) else (catchpitref07_Length.l0 k x0 x4 x5 x6 (wrap64 (x7 + 1)))
end
def catchpitref07_Length.f (k : Nat) (l0 : List ByteArray) : Option (Int × Int) := if (l0.length : Int) = 0 then (some (0, 7)) else (catchpitref07_Length.l0 k l0 false true 0 0)
theorem catchpitref07_Length.mono_l : ∀ k, (∀ y0 y1 y2 y3 y4, LeO (catchpitref07_Length.l0 k y0 y1 y2 y3 y4) (catchpitref07_Length.l0 (k + 1) y0 y1 y2 y3 y4)) ∧ (∀ y0 y1 y2 y3 y4 y5 y6, LeO (catchpitref07_Length.l1 k y0 y1 y2 y3 y4 y5 y6) (catchpitref07_Length.l1 (k + 1) y0 y1 y2 y3 y4 y5 y6))
  | 0 => ⟨fun _ _ _ _ _ r h => by simp [catchpitref07_Length.l0] at h, fun _ _ _ _ _ _ _ r h => by simp [catchpitref07_Length.l1] at h⟩
  | k + 1 => by
    obtain ⟨ih0, ih1⟩ := catchpitref07_Length.mono_l k
    refine ⟨?_, ?_⟩
    · intro y0 y1 y2 y3 y4
      unfold catchpitref07_Length.l0
      repeat' first
      | (with_reducible exact ih0 _ _ _ _ _)
      | (with_reducible exact ih1 _ _ _ _ _ _ _)
      | (with_reducible exact catchpitref07_Items.mono _ _)
      | (with_reducible exact catchpitref07_Number.mono _ _)
      | (with_reducible exact LeO.refl _)
      | (with_reducible exact LeO.none _)
      | (with_reducible refine LeO.ite ?_ ?_)
      | (with_reducible refine LeO.bind ?_ (fun _ => ?_))
      | exact ih0 _ _ _ _ _
      | exact ih1 _ _ _ _ _ _ _
      | exact catchpitref07_Items.mono _ _
      | exact catchpitref07_Number.mono _ _
      | exact LeO.none _
      | refine LeO.ite ?_ ?_
      | refine LeO.bind ?_ (fun _ => ?_)
    · intro y0 y1 y2 y3 y4 y5 y6
      unfold catchpitref07_Length.l1
      repeat' first
      | (with_reducible exact ih0 _ _ _ _ _)
      | (with_reducible exact ih1 _ _ _ _ _ _ _)
      | (with_reducible exact catchpitref07_Items.mono _ _)
      | (with_reducible exact catchpitref07_Number.mono _ _)
      | (with_reducible exact LeO.refl _)
      | (with_reducible exact LeO.none _)
      | (with_reducible refine LeO.ite ?_ ?_)
      | (with_reducible refine LeO.bind ?_ (fun _ => ?_))
      | exact ih0 _ _ _ _ _
      | exact ih1 _ _ _ _ _ _ _
      | exact catchpitref07_Items.mono _ _
      | exact catchpitref07_Number.mono _ _
      | exact LeO.none _
      | refine LeO.ite ?_ ?_
      | refine LeO.bind ?_ (fun _ => ?_)
theorem catchpitref07_Length.mono : ∀ a0 k, LeO (catchpitref07_Length.f k a0) (catchpitref07_Length.f (k + 1) a0) := by
  intro a0 k
  obtain ⟨ih0, ih1⟩ := catchpitref07_Length.mono_l k
  unfold catchpitref07_Length.f
  repeat' first
      | (with_reducible exact ih0 _ _ _ _ _)
      | (with_reducible exact ih1 _ _ _ _ _ _ _)
      | (with_reducible exact catchpitref07_Items.mono _ _)
      | (with_reducible exact catchpitref07_Number.mono _ _)
      | (with_reducible exact LeO.refl _)
      | (with_reducible exact LeO.none _)
      | (with_reducible refine LeO.ite ?_ ?_)
      | (with_reducible refine LeO.bind ?_ (fun _ => ?_))
      | exact ih0 _ _ _ _ _
      | exact ih1 _ _ _ _ _ _ _
      | exact catchpitref07_Items.mono _ _
      | exact catchpitref07_Number.mono _ _
      | exact LeO.none _
      | refine LeO.ite ?_ ?_
      | refine LeO.bind ?_ (fun _ => ?_)
def catchpitref11_length.f (k : Nat) (l0 : List (S71)) (a1 : Int) : Option (Int × Int × Int) := (catchpitref05_Get.f k l0 (⟨#[99, 111, 110, 116, 101, 110, 116, 45, 108, 101, 110, 103, 116, 104]⟩ : ByteArray)).bind fun t209 => (if (t209.length : Int) = 0 then (some (a1, 0, 0)) else ((catchpitref07_Length.f k t209).bind fun bt212 => (if bt212.2 = 0 then (some (1, bt212.1, 0)) else (some (0, 0, bt212.2)))))
theorem catchpitref11_length.mono : ∀ a0 a1 k, LeO (catchpitref11_length.f k a0 a1) (catchpitref11_length.f (k + 1) a0 a1) := by
  intro a0 a1 k
  unfold catchpitref11_length.f
  repeat' first
      | (with_reducible exact catchpitref05_Get.mono _ _ _)
      | (with_reducible exact catchpitref07_Length.mono _ _)
      | (with_reducible exact LeO.refl _)
      | (with_reducible exact LeO.none _)
      | (with_reducible refine LeO.ite ?_ ?_)
      | (with_reducible refine LeO.bind ?_ (fun _ => ?_))
      | exact catchpitref05_Get.mono _ _ _
      | exact catchpitref07_Length.mono _ _
      | exact LeO.none _
      | refine LeO.ite ?_ ?_
      | refine LeO.bind ?_ (fun _ => ?_)
def catchpitref07_word.f (k : Nat) (a0 : ByteArray) : Option (ByteArray) := (catchpitref07_cut.f k a0 59).bind fun t214 => (if 0 < (t214.length : Int) then ((catchpitref02_Trim.f k (rdOf ByteArray.empty t214 0)).bind fun t218 => (some t218)) else (none))
theorem catchpitref07_word.mono : ∀ a0 k, LeO (catchpitref07_word.f k a0) (catchpitref07_word.f (k + 1) a0) := by
  intro a0 k
  unfold catchpitref07_word.f
  repeat' first
      | (with_reducible exact catchpitref02_Trim.mono _ _)
      | (with_reducible exact catchpitref07_cut.mono _ _ _)
      | (with_reducible exact LeO.refl _)
      | (with_reducible exact LeO.none _)
      | (with_reducible refine LeO.ite ?_ ?_)
      | (with_reducible refine LeO.bind ?_ (fun _ => ?_))
      | exact catchpitref02_Trim.mono _ _
      | exact catchpitref07_cut.mono _ _ _
      | exact LeO.none _
      | refine LeO.ite ?_ ?_
      | refine LeO.bind ?_ (fun _ => ?_)
end Go.Proofs.YtoanmbhenmlboaaDoor.Pr
end
section
namespace Go.Proofs.YtoanmbhenmlboaaDoor.Pr
open Go.RowKit Go.Proofs.YtoanmbhenmlboaaDoorH Go.Proofs.YtoanmbhenmlboaaDoorW.PrintWords Go.Proofs.YtoanmbhenmlboaaDoorW.PrintLast Go.Proofs.YtoanmbhenmlboaaDoorW.PrintMore
attribute [local go_sem] max2_int min2_int max_two min_two max_three min_three max_four min_four   -- for this text's walks alone
set_option linter.unusedVariables false
set_option linter.unusedSimpArgs false
def catchpitref02_token.j0 : Nat → Int → Bool → Option (Bool)
  | 0, _, _ => none
  | k + 1, x0, x24 => if x24 = true then (some true) else (if x0 = 33 then (some true) else (if x0 = 35 then (some true) else (if x0 = 36 then (some true) else (if x0 = 37 then (some true) else (if x0 = 38 then (some true) else (if x0 = 39 then (some true) else (if x0 = 42 then (some true) else (if x0 = 43 then (some true) else (if x0 = 45 then (some true) else (if x0 = 46 then (some true) else (if x0 = 94 then (some true) else (if x0 = 95 then (some true) else (if x0 = 96 then (some true) else (if x0 = 124 then (some true) else (if x0 = 126 then (some true) else (some false))))))))))))))))
def catchpitref02_token.f (k : Nat) (a0 : Int) : Option (Bool) := if a0 ≥ 97 then (if a0 ≤ 122 then (catchpitref02_token.j0 k a0 true) else (if a0 ≥ 65 then (if a0 ≤ 90 then (catchpitref02_token.j0 k a0 true) else (if a0 ≥ 48 then (catchpitref02_token.j0 k a0 (decide (a0 ≤ 57))) else (catchpitref02_token.j0 k a0 false))) else (if a0 ≥ 48 then (catchpitref02_token.j0 k a0 (decide (a0 ≤ 57))) else (catchpitref02_token.j0 k a0 false)))) else (if a0 ≥ 65 then (if a0 ≤ 90 then (catchpitref02_token.j0 k a0 true) else (if a0 ≥ 48 then (catchpitref02_token.j0 k a0 (decide (a0 ≤ 57))) else (catchpitref02_token.j0 k a0 false))) else (if a0 ≥ 48 then (catchpitref02_token.j0 k a0 (decide (a0 ≤ 57))) else (catchpitref02_token.j0 k a0 false)))
theorem catchpitref02_token.mono_l : ∀ k, (∀ y0 y1, LeO (catchpitref02_token.j0 k y0 y1) (catchpitref02_token.j0 (k + 1) y0 y1))
  | 0 => fun _ _ r h => by simp [catchpitref02_token.j0] at h
  | k + 1 => by
    have ih0 := catchpitref02_token.mono_l k
    · intro y0 y1
      unfold catchpitref02_token.j0
      repeat' first
      | (with_reducible exact ih0 _ _)
      | (with_reducible exact LeO.refl _)
      | (with_reducible exact LeO.none _)
      | (with_reducible refine LeO.ite ?_ ?_)
      | (with_reducible refine LeO.bind ?_ (fun _ => ?_))
      | exact ih0 _ _
      | exact LeO.none _
      | refine LeO.ite ?_ ?_
      | refine LeO.bind ?_ (fun _ => ?_)
theorem catchpitref02_token.mono : ∀ a0 k, LeO (catchpitref02_token.f k a0) (catchpitref02_token.f (k + 1) a0) := by
  intro a0 k
  have ih0 := catchpitref02_token.mono_l k
  unfold catchpitref02_token.f
  repeat' first
      | (with_reducible exact ih0 _ _)
      | (with_reducible exact LeO.refl _)
      | (with_reducible exact LeO.none _)
      | (with_reducible refine LeO.ite ?_ ?_)
      | (with_reducible refine LeO.bind ?_ (fun _ => ?_))
      | exact ih0 _ _
      | exact LeO.none _
      | refine LeO.ite ?_ ?_
      | refine LeO.bind ?_ (fun _ => ?_)
def catchpitref02_Token.l0 : Nat → ByteArray → Int → Option (Bool)
  | 0, _, _ => none
  | k + 1, x0, x3 => if x3 < (x0.size : Int) then (if 0 ≤ x3 then ((catchpitref02_token.f k (bt x0 x3)).bind fun t219 => (if t219 = true then (catchpitref02_Token.l0 k x0 (wrap64 (x3 + 1))) else (some false))) else (none)) else (some (decide ((x0.size : Int) > 0)))
def catchpitref02_Token.f (k : Nat) (a0 : ByteArray) : Option (Bool) := catchpitref02_Token.l0 k a0 0
theorem catchpitref02_Token.mono_l : ∀ k, (∀ y0 y1, LeO (catchpitref02_Token.l0 k y0 y1) (catchpitref02_Token.l0 (k + 1) y0 y1))
  | 0 => fun _ _ r h => by simp [catchpitref02_Token.l0] at h
  | k + 1 => by
    have ih0 := catchpitref02_Token.mono_l k
    · intro y0 y1
      unfold catchpitref02_Token.l0
      repeat' first
      | (with_reducible exact ih0 _ _)
      | (with_reducible exact catchpitref02_token.mono _ _)
      | (with_reducible exact LeO.refl _)
      | (with_reducible exact LeO.none _)
      | (with_reducible refine LeO.ite ?_ ?_)
      | (with_reducible refine LeO.bind ?_ (fun _ => ?_))
      | exact ih0 _ _
      | exact catchpitref02_token.mono _ _
      | exact LeO.none _
      | refine LeO.ite ?_ ?_
      | refine LeO.bind ?_ (fun _ => ?_)
theorem catchpitref02_Token.mono : ∀ a0 k, LeO (catchpitref02_Token.f k a0) (catchpitref02_Token.f (k + 1) a0) := by
  intro a0 k
  have ih0 := catchpitref02_Token.mono_l k
  unfold catchpitref02_Token.f
  repeat' first
      | (with_reducible exact ih0 _ _)
      | (with_reducible exact catchpitref02_token.mono _ _)
      | (with_reducible exact LeO.refl _)
      | (with_reducible exact LeO.none _)
      | (with_reducible refine LeO.ite ?_ ?_)
      | (with_reducible refine LeO.bind ?_ (fun _ => ?_))
      | exact ih0 _ _
      | exact catchpitref02_token.mono _ _
      | exact LeO.none _
      | refine LeO.ite ?_ ?_
      | refine LeO.bind ?_ (fun _ => ?_)
def catchpitref07_Codings.l0 : Nat → List ByteArray → List ByteArray → Int → Option (List ByteArray × Int)
  | 0, _, _, _ => none
  | k + 1, x4, x5, x6 => if x6 < (x5.length : Int) then (if 0 ≤ x6 then ((catchpitref07_word.f k (rdOf ByteArray.empty x5 x6)).bind fun t224 => ((catchpitref02_Token.f k t224).bind fun t225 => (if t225 = true then ((catchpitref02_Small.f k t224).bind fun t226 => (if x4.length < 8796093022208 then (catchpitref07_Codings.l0 k (x4 ++ [t226]) x5 (wrap64 (x6 + 1))) else (none))) else (some (([] : List ByteArray), 2))))) else (none)) else (if (x4.length : Int) = 0 then (some (([] : List ByteArray), 2)) else (some (x4, 0)))
def catchpitref07_Codings.f (k : Nat) (l0 : List ByteArray) : Option (List ByteArray × Int) := if (l0.length : Int) = 0 then (some (([] : List ByteArray), 7)) else ((catchpitref07_Items.f k l0).bind fun t220 => (catchpitref07_Codings.l0 k ([] : List ByteArray) t220 0))
theorem catchpitref07_Codings.mono_l : ∀ k, (∀ y0 y1 y2, LeO (catchpitref07_Codings.l0 k y0 y1 y2) (catchpitref07_Codings.l0 (k + 1) y0 y1 y2))
  | 0 => fun _ _ _ r h => by simp [catchpitref07_Codings.l0] at h
  | k + 1 => by
    have ih0 := catchpitref07_Codings.mono_l k
    · intro y0 y1 y2
      unfold catchpitref07_Codings.l0
      repeat' first
      | (with_reducible exact ih0 _ _ _)
      | (with_reducible exact catchpitref02_Small.mono _ _)
      | (with_reducible exact catchpitref02_Token.mono _ _)
      | (with_reducible exact catchpitref07_Items.mono _ _)
      | (with_reducible exact catchpitref07_word.mono _ _)
      | (with_reducible exact LeO.refl _)
      | (with_reducible exact LeO.none _)
      | (with_reducible refine LeO.ite ?_ ?_)
      | (with_reducible refine LeO.bind ?_ (fun _ => ?_))
      | exact ih0 _ _ _
      | exact catchpitref02_Small.mono _ _
      | exact catchpitref02_Token.mono _ _
      | exact catchpitref07_Items.mono _ _
      | exact catchpitref07_word.mono _ _
      | exact LeO.none _
      | refine LeO.ite ?_ ?_
      | refine LeO.bind ?_ (fun _ => ?_)
theorem catchpitref07_Codings.mono : ∀ a0 k, LeO (catchpitref07_Codings.f k a0) (catchpitref07_Codings.f (k + 1) a0) := by
  intro a0 k
  have ih0 := catchpitref07_Codings.mono_l k
  unfold catchpitref07_Codings.f
  repeat' first
      | (with_reducible exact ih0 _ _ _)
      | (with_reducible exact catchpitref02_Small.mono _ _)
      | (with_reducible exact catchpitref02_Token.mono _ _)
      | (with_reducible exact catchpitref07_Items.mono _ _)
      | (with_reducible exact catchpitref07_word.mono _ _)
      | (with_reducible exact LeO.refl _)
      | (with_reducible exact LeO.none _)
      | (with_reducible refine LeO.ite ?_ ?_)
      | (with_reducible refine LeO.bind ?_ (fun _ => ?_))
      | exact ih0 _ _ _
      | exact catchpitref02_Small.mono _ _
      | exact catchpitref02_Token.mono _ _
      | exact catchpitref07_Items.mono _ _
      | exact catchpitref07_word.mono _ _
      | exact LeO.none _
      | refine LeO.ite ?_ ?_
      | refine LeO.bind ?_ (fun _ => ?_)
end Go.Proofs.YtoanmbhenmlboaaDoor.Pr
end
section
namespace Go.Proofs.YtoanmbhenmlboaaDoor.Pr
open Go.RowKit Go.Proofs.YtoanmbhenmlboaaDoorH Go.Proofs.YtoanmbhenmlboaaDoorW.PrintWords Go.Proofs.YtoanmbhenmlboaaDoorW.PrintLast Go.Proofs.YtoanmbhenmlboaaDoorW.PrintMore
attribute [local go_sem] max2_int min2_int max_two min_two max_three min_three max_four min_four   -- for this text's walks alone
set_option linter.unusedVariables false
set_option linter.unusedSimpArgs false
attribute [local go_sem high] eqA57
def catchpitref11_Request.f (k : Nat) (l0 : List (S71)) : Option (Int × Int × Int) := (catchpitref05_Get.f k l0 (⟨#[116, 114, 97, 110, 115, 102, 101, 114, 45, 101, 110, 99, 111, 100, 105, 110, 103]⟩ : ByteArray)).bind fun t231 => (if (t231.length : Int) = 0 then ((catchpitref11_length.f k l0 0).bind fun bt234 => (some (bt234.1, bt234.2.1, bt234.2.2))) else ((catchpitref07_Codings.f k t231).bind fun bt237 => (if bt237.2 = 0 then ((catchpitref05_Get.f k l0 (⟨#[99, 111, 110, 116, 101, 110, 116, 45, 108, 101, 110, 103, 116, 104]⟩ : ByteArray)).bind fun t241 => (if (t241.length : Int) > 0 then (some (0, 0, 2)) else (if (bt237.1.length : Int) = 1 then (if 0 < (bt237.1.length : Int) then (if (rdOf ByteArray.empty bt237.1 0).toList = ([99, 104, 117, 110, 107, 101, 100] : List UInt8) then (some (2, 0, 0)) else (some (0, 0, 2))) else (none)) else (some (0, 0, 2))))) else (some (0, 0, 2)))))
theorem catchpitref11_Request.mono : ∀ a0 k, LeO (catchpitref11_Request.f k a0) (catchpitref11_Request.f (k + 1) a0) := by
  intro a0 k
  unfold catchpitref11_Request.f
  repeat' first
      | (with_reducible exact catchpitref05_Get.mono _ _ _)
      | (with_reducible exact catchpitref07_Codings.mono _ _)
      | (with_reducible exact catchpitref11_length.mono _ _ _)
      | (with_reducible exact LeO.refl _)
      | (with_reducible exact LeO.none _)
      | (with_reducible refine LeO.ite ?_ ?_)
      | (with_reducible refine LeO.bind ?_ (fun _ => ?_))
      | exact catchpitref05_Get.mono _ _ _
      | exact catchpitref07_Codings.mono _ _
      | exact catchpitref11_length.mono _ _ _
      | exact LeO.none _
      | refine LeO.ite ?_ ?_
      | refine LeO.bind ?_ (fun _ => ?_)
def catchpitlaw11_FramingRequests.f (k : Nat) (l0 : List (S71)) : Option (Bool) := (catchpitlaw11_wakes.f k).bind fun t245 => (if t245 = true then ((catchpitref05_Great.f k l0).bind fun t246 => (if t246 = true then (some true) else ((framing_Request.f k l0).bind fun bt247 => ((catchpitref11_Request.f k l0).bind fun bt251 => (if (bt247.1 == bt251.1 && (bt247.2.1 == bt251.2.1)) = true then (some (bt247.2.2 == bt251.2.2)) else (some false)))))) else (some false))
theorem catchpitlaw11_FramingRequests.mono : ∀ a0 k, LeO (catchpitlaw11_FramingRequests.f k a0) (catchpitlaw11_FramingRequests.f (k + 1) a0) := by
  intro a0 k
  unfold catchpitlaw11_FramingRequests.f
  repeat' first
      | (with_reducible exact catchpitlaw11_wakes.mono _)
      | (with_reducible exact catchpitref05_Great.mono _ _)
      | (with_reducible exact catchpitref11_Request.mono _ _)
      | (with_reducible exact framing_Request.mono _ _)
      | (with_reducible exact LeO.refl _)
      | (with_reducible exact LeO.none _)
      | (with_reducible refine LeO.ite ?_ ?_)
      | (with_reducible refine LeO.bind ?_ (fun _ => ?_))
      | exact catchpitlaw11_wakes.mono _
      | exact catchpitref05_Great.mono _ _
      | exact catchpitref11_Request.mono _ _
      | exact framing_Request.mono _ _
      | exact LeO.none _
      | refine LeO.ite ?_ ?_
      | refine LeO.bind ?_ (fun _ => ?_)
def catchpitref11_Bodiless.f (a0 : ByteArray) (a1 : Int) : Option (Bool) := if a0.toList = ([72, 69, 65, 68] : List UInt8) then (some true) else (if a1 ≥ 100 then (if a1 < 200 then (some true) else (if a1 = 204 then (some true) else (if a1 = 304 then (some true) else (if a0.toList = ([67, 79, 78, 78, 69, 67, 84] : List UInt8) then (if a1 ≥ 200 then (some (decide (a1 < 300))) else (some false)) else (some false))))) else (if a1 = 204 then (some true) else (if a1 = 304 then (some true) else (if a0.toList = ([67, 79, 78, 78, 69, 67, 84] : List UInt8) then (if a1 ≥ 200 then (some (decide (a1 < 300))) else (some false)) else (some false)))))
end Go.Proofs.YtoanmbhenmlboaaDoor.Pr
end
section
namespace Go.Proofs.YtoanmbhenmlboaaDoor.Pr
open Go.RowKit Go.Proofs.YtoanmbhenmlboaaDoorH Go.Proofs.YtoanmbhenmlboaaDoorW.PrintWords Go.Proofs.YtoanmbhenmlboaaDoorW.PrintLast Go.Proofs.YtoanmbhenmlboaaDoorW.PrintMore
attribute [local go_sem] max2_int min2_int max_two min_two max_three min_three max_four min_four   -- for this text's walks alone
set_option linter.unusedVariables false
set_option linter.unusedSimpArgs false
mutual
def catchpitref11_Response.j0 : Nat → ByteArray → Int → List (S71) → Bool → Option (Int × Int × Int)
  | 0, _, _, _, _ => none
  | k + 1, x0, x1, x2, x18 => if x18 = true then (some (0, 0, 1)) else ((catchpitref11_Bodiless.f x0 x1).bind fun t256 => (if t256 = true then (some (0, 0, 0)) else ((catchpitref05_Get.f k x2 (⟨#[116, 114, 97, 110, 115, 102, 101, 114, 45, 101, 110, 99, 111, 100, 105, 110, 103]⟩ : ByteArray)).bind fun t257 => (if (t257.length : Int) = 0 then ((catchpitref11_length.f k x2 3).bind fun bt260 => (some (bt260.1, bt260.2.1, bt260.2.2))) else ((catchpitref07_Codings.f k t257).bind fun bt263 => (if bt263.2 = 0 then ((catchpitref05_Get.f k x2 (⟨#[99, 111, 110, 116, 101, 110, 116, 45, 108, 101, 110, 103, 116, 104]⟩ : ByteArray)).bind fun t267 => (catchpitref11_Response.j1 k bt263.1 (decide ((t267.length : Int) > 0)))) else (catchpitref11_Response.j1 k bt263.1 true)))))))
def catchpitref11_Response.j1 : Nat → List ByteArray → Bool → Option (Int × Int × Int)
  | 0, _, _ => none
  | k + 1, x9, x45 => if x45 = true then (some (0, 0, 2)) else (catchpitref11_Response.l0 k x9 0 0)
def catchpitref11_Response.l0 : Nat → List ByteArray → Int → Int → Option (Int × Int × Int)
  | 0, _, _, _ => none
  | k + 1, x9, x11, x12 => if x12 < (x9.length : Int) then (if 0 ≤ x12 then (if (rdOf ByteArray.empty x9 x12).toList = ([99, 104, 117, 110, 107, 101, 100] : List UInt8) then (catchpitref11_Response.l0 k x9 (wrap64 (x11 + 1)) (wrap64 (x12 + 1))) else (catchpitref11_Response.l0 k x9 x11 (wrap64 (x12 + 1)))) else (none)) else (if x11 = 0 then (some (3, 0, 0)) else (if x11 > 1 then (catchpitref11_Response.j3 k x9 true) else (if 0 ≤ (wrap64 ((x9.length : Int) - 1)) then (if (wrap64 ((x9.length : Int) - 1)) < (x9.length : Int) then (catchpitref11_Response.j3 k x9 ((rdOf ByteArray.empty x9 (wrap64 ((x9.length : Int) - 1))).toList != ([99, 104, 117, 110, 107, 101, 100] : List UInt8))) else (none)) else (none))))
def catchpitref11_Response.j3 : Nat → List ByteArray → Bool → Option (Int × Int × Int)
  | 0, _, _ => none
  | k + 1, x9, x73 => if x73 = true then (some (0, 0, 2)) else (if (x9.length : Int) > 1 then (some (0, 0, 5)) else (some (2, 0, 0)))
end
def catchpitref11_Response.f (k : Nat) (a0 : ByteArray) (a1 : Int) (l2 : List (S71)) : Option (Int × Int × Int) := if a1 < 100 then (catchpitref11_Response.j0 k a0 a1 l2 true) else (catchpitref11_Response.j0 k a0 a1 l2 (decide (a1 > 999)))
theorem catchpitref11_Response.mono_l : ∀ k, (∀ y0 y1 y2 y3, LeO (catchpitref11_Response.j0 k y0 y1 y2 y3) (catchpitref11_Response.j0 (k + 1) y0 y1 y2 y3)) ∧ (∀ y0 y1, LeO (catchpitref11_Response.j1 k y0 y1) (catchpitref11_Response.j1 (k + 1) y0 y1)) ∧ (∀ y0 y1 y2, LeO (catchpitref11_Response.l0 k y0 y1 y2) (catchpitref11_Response.l0 (k + 1) y0 y1 y2)) ∧ (∀ y0 y1, LeO (catchpitref11_Response.j3 k y0 y1) (catchpitref11_Response.j3 (k + 1) y0 y1))
  | 0 => ⟨fun _ _ _ _ r h => by simp [catchpitref11_Response.j0] at h, fun _ _ r h => by simp [catchpitref11_Response.j1] at h, fun _ _ _ r h => by simp [catchpitref11_Response.l0] at h, fun _ _ r h => by simp [catchpitref11_Response.j3] at h⟩
  | k + 1 => by
    obtain ⟨ih0, ih1, ih2, ih3⟩ := catchpitref11_Response.mono_l k
    refine ⟨?_, ?_, ?_, ?_⟩
    · intro y0 y1 y2 y3
      unfold catchpitref11_Response.j0
      repeat' first
      | (with_reducible exact ih0 _ _ _ _)
      | (with_reducible exact ih1 _ _)
      | (with_reducible exact ih2 _ _ _)
      | (with_reducible exact ih3 _ _)
      | (with_reducible exact catchpitref05_Get.mono _ _ _)
      | (with_reducible exact catchpitref07_Codings.mono _ _)
      | (with_reducible exact catchpitref11_length.mono _ _ _)
      | (with_reducible exact LeO.refl _)
      | (with_reducible exact LeO.none _)
      | (with_reducible refine LeO.ite ?_ ?_)
      | (with_reducible refine LeO.bind ?_ (fun _ => ?_))
      | exact ih0 _ _ _ _
      | exact ih1 _ _
      | exact ih2 _ _ _
      | exact ih3 _ _
      | exact catchpitref05_Get.mono _ _ _
      | exact catchpitref07_Codings.mono _ _
      | exact catchpitref11_length.mono _ _ _
      | exact LeO.none _
      | refine LeO.ite ?_ ?_
      | refine LeO.bind ?_ (fun _ => ?_)
    · intro y0 y1
      unfold catchpitref11_Response.j1
      repeat' first
      | (with_reducible exact ih0 _ _ _ _)
      | (with_reducible exact ih1 _ _)
      | (with_reducible exact ih2 _ _ _)
      | (with_reducible exact ih3 _ _)
      | (with_reducible exact catchpitref05_Get.mono _ _ _)
      | (with_reducible exact catchpitref07_Codings.mono _ _)
      | (with_reducible exact catchpitref11_length.mono _ _ _)
      | (with_reducible exact LeO.refl _)
      | (with_reducible exact LeO.none _)
      | (with_reducible refine LeO.ite ?_ ?_)
      | (with_reducible refine LeO.bind ?_ (fun _ => ?_))
      | exact ih0 _ _ _ _
      | exact ih1 _ _
      | exact ih2 _ _ _
      | exact ih3 _ _
      | exact catchpitref05_Get.mono _ _ _
      | exact catchpitref07_Codings.mono _ _
      | exact catchpitref11_length.mono _ _ _
      | exact LeO.none _
      | refine LeO.ite ?_ ?_
      | refine LeO.bind ?_ (fun _ => ?_)
    · intro y0 y1 y2
      unfold catchpitref11_Response.l0
      repeat' first
      | (with_reducible exact ih0 _ _ _ _)
      | (with_reducible exact ih1 _ _)
      | (with_reducible exact ih2 _ _ _)
      | (with_reducible exact ih3 _ _)
      | (with_reducible exact catchpitref05_Get.mono _ _ _)
      | (with_reducible exact catchpitref07_Codings.mono _ _)
      | (with_reducible exact catchpitref11_length.mono _ _ _)
      | (with_reducible exact LeO.refl _)
      | (with_reducible exact LeO.none _)
      | (with_reducible refine LeO.ite ?_ ?_)
      | (with_reducible refine LeO.bind ?_ (fun _ => ?_))
      | exact ih0 _ _ _ _
      | exact ih1 _ _
      | exact ih2 _ _ _
      | exact ih3 _ _
      | exact catchpitref05_Get.mono _ _ _
      | exact catchpitref07_Codings.mono _ _
      | exact catchpitref11_length.mono _ _ _
      | exact LeO.none _
      | refine LeO.ite ?_ ?_
      | refine LeO.bind ?_ (fun _ => ?_)
    · intro y0 y1
      unfold catchpitref11_Response.j3
      repeat' first
      | (with_reducible exact ih0 _ _ _ _)
      | (with_reducible exact ih1 _ _)
      | (with_reducible exact ih2 _ _ _)
      | (with_reducible exact ih3 _ _)
      | (with_reducible exact catchpitref05_Get.mono _ _ _)
      | (with_reducible exact catchpitref07_Codings.mono _ _)
      | (with_reducible exact catchpitref11_length.mono _ _ _)
      | (with_reducible exact LeO.refl _)
      | (with_reducible exact LeO.none _)
      | (with_reducible refine LeO.ite ?_ ?_)
      | (with_reducible refine LeO.bind ?_ (fun _ => ?_))
      | exact ih0 _ _ _ _
      | exact ih1 _ _
      | exact ih2 _ _ _
      | exact ih3 _ _
      | exact catchpitref05_Get.mono _ _ _
      | exact catchpitref07_Codings.mono _ _
      | exact catchpitref11_length.mono _ _ _
      | exact LeO.none _
      | refine LeO.ite ?_ ?_
      | refine LeO.bind ?_ (fun _ => ?_)
theorem catchpitref11_Response.mono : ∀ a0 a1 a2 k, LeO (catchpitref11_Response.f k a0 a1 a2) (catchpitref11_Response.f (k + 1) a0 a1 a2) := by
  intro a0 a1 a2 k
  obtain ⟨ih0, ih1, ih2, ih3⟩ := catchpitref11_Response.mono_l k
  unfold catchpitref11_Response.f
  repeat' first
      | (with_reducible exact ih0 _ _ _ _)
      | (with_reducible exact ih1 _ _)
      | (with_reducible exact ih2 _ _ _)
      | (with_reducible exact ih3 _ _)
      | (with_reducible exact catchpitref05_Get.mono _ _ _)
      | (with_reducible exact catchpitref07_Codings.mono _ _)
      | (with_reducible exact catchpitref11_length.mono _ _ _)
      | (with_reducible exact LeO.refl _)
      | (with_reducible exact LeO.none _)
      | (with_reducible refine LeO.ite ?_ ?_)
      | (with_reducible refine LeO.bind ?_ (fun _ => ?_))
      | exact ih0 _ _ _ _
      | exact ih1 _ _
      | exact ih2 _ _ _
      | exact ih3 _ _
      | exact catchpitref05_Get.mono _ _ _
      | exact catchpitref07_Codings.mono _ _
      | exact catchpitref11_length.mono _ _ _
      | exact LeO.none _
      | refine LeO.ite ?_ ?_
      | refine LeO.bind ?_ (fun _ => ?_)
end Go.Proofs.YtoanmbhenmlboaaDoor.Pr
end
section
namespace Go.Proofs.YtoanmbhenmlboaaDoor.Pr
open Go.RowKit Go.Proofs.YtoanmbhenmlboaaDoorH Go.Proofs.YtoanmbhenmlboaaDoorW.PrintWords Go.Proofs.YtoanmbhenmlboaaDoorW.PrintLast Go.Proofs.YtoanmbhenmlboaaDoorW.PrintMore
attribute [local go_sem] max2_int min2_int max_two min_two max_three min_three max_four min_four   -- for this text's walks alone
set_option linter.unusedVariables false
set_option linter.unusedSimpArgs false
attribute [local go_sem high] eqA57
def catchpitlaw11_FramingResponses.j0 : Nat → ByteArray → Int → List (S71) → Bool → Option (Bool)
  | 0, _, _, _, _ => none
  | k + 1, x0, x1, x2, x19 => if x19 = true then (some true) else ((framing_Response.f k x0 x1 x2).bind fun bt274 => ((catchpitref11_Response.f k x0 x1 x2).bind fun bt278 => (if (bt274.1 == bt278.1 && (bt274.2.1 == bt278.2.1)) = true then (if bt274.2.2 = bt278.2.2 then ((framing_Bodiless.f k x0 x1).bind fun t282 => ((catchpitref11_Bodiless.f x0 x1).bind fun t283 => (some (t282 == t283)))) else (some false)) else (some false))))
def catchpitlaw11_FramingResponses.f (k : Nat) (a0 : ByteArray) (a1 : Int) (l2 : List (S71)) : Option (Bool) := (catchpitlaw11_wakes.f k).bind fun t272 => (if t272 = true then ((catchpitref05_Great.f k l2).bind fun t273 => (if t273 = true then (catchpitlaw11_FramingResponses.j0 k a0 a1 l2 true) else (catchpitlaw11_FramingResponses.j0 k a0 a1 l2 (decide ((a0.size : Int) > 200))))) else (some false))
theorem catchpitlaw11_FramingResponses.mono_l : ∀ k, (∀ y0 y1 y2 y3, LeO (catchpitlaw11_FramingResponses.j0 k y0 y1 y2 y3) (catchpitlaw11_FramingResponses.j0 (k + 1) y0 y1 y2 y3))
  | 0 => fun _ _ _ _ r h => by simp [catchpitlaw11_FramingResponses.j0] at h
  | k + 1 => by
    have ih0 := catchpitlaw11_FramingResponses.mono_l k
    · intro y0 y1 y2 y3
      unfold catchpitlaw11_FramingResponses.j0
      repeat' first
      | (with_reducible exact ih0 _ _ _ _)
      | (with_reducible exact catchpitlaw11_wakes.mono _)
      | (with_reducible exact catchpitref05_Great.mono _ _)
      | (with_reducible exact catchpitref11_Response.mono _ _ _ _)
      | (with_reducible exact framing_Bodiless.mono _ _ _)
      | (with_reducible exact framing_Response.mono _ _ _ _)
      | (with_reducible exact LeO.refl _)
      | (with_reducible exact LeO.none _)
      | (with_reducible refine LeO.ite ?_ ?_)
      | (with_reducible refine LeO.bind ?_ (fun _ => ?_))
      | exact ih0 _ _ _ _
      | exact catchpitlaw11_wakes.mono _
      | exact catchpitref05_Great.mono _ _
      | exact catchpitref11_Response.mono _ _ _ _
      | exact framing_Bodiless.mono _ _ _
      | exact framing_Response.mono _ _ _ _
      | exact LeO.none _
      | refine LeO.ite ?_ ?_
      | refine LeO.bind ?_ (fun _ => ?_)
theorem catchpitlaw11_FramingResponses.mono : ∀ a0 a1 a2 k, LeO (catchpitlaw11_FramingResponses.f k a0 a1 a2) (catchpitlaw11_FramingResponses.f (k + 1) a0 a1 a2) := by
  intro a0 a1 a2 k
  have ih0 := catchpitlaw11_FramingResponses.mono_l k
  unfold catchpitlaw11_FramingResponses.f
  repeat' first
      | (with_reducible exact ih0 _ _ _ _)
      | (with_reducible exact catchpitlaw11_wakes.mono _)
      | (with_reducible exact catchpitref05_Great.mono _ _)
      | (with_reducible exact catchpitref11_Response.mono _ _ _ _)
      | (with_reducible exact framing_Bodiless.mono _ _ _)
      | (with_reducible exact framing_Response.mono _ _ _ _)
      | (with_reducible exact LeO.refl _)
      | (with_reducible exact LeO.none _)
      | (with_reducible refine LeO.ite ?_ ?_)
      | (with_reducible refine LeO.bind ?_ (fun _ => ?_))
      | exact ih0 _ _ _ _
      | exact catchpitlaw11_wakes.mono _
      | exact catchpitref05_Great.mono _ _
      | exact catchpitref11_Response.mono _ _ _ _
      | exact framing_Bodiless.mono _ _ _
      | exact framing_Response.mono _ _ _ _
      | exact LeO.none _
      | refine LeO.ite ?_ ?_
      | refine LeO.bind ?_ (fun _ => ?_)
mutual
def catchpitref05_Without.l0 : Nat → List (S71) → List ByteArray → List (S71) → Int → Option ((List (S71)))
  | 0, _, _, _, _ => none
  | k + 1, x0, x1, x5, x6 => if x6 < (x0.length : Int) then (if 0 ≤ x6 then (if x5.length < 4398046511104 then (catchpitref05_Without.l1 k x0 x1 (x5 ++ [(⟨(rd_T71 x0 x6).f0, (rd_T71 x0 x6).f1⟩ : S71)]) x6 0) else (none)) else (none)) else (some x5)
def catchpitref05_Without.l1 : Nat → List (S71) → List ByteArray → List (S71) → Int → Int → Option ((List (S71)))
  | 0, _, _, _, _, _ => none
  | k + 1, x0, x1, x5, x6, x7 => if x7 < (x1.length : Int) then (if 0 ≤ x6 then (if x6 < (x0.length : Int) then (if 0 ≤ x7 then ((catchpitref05_Is.f k ((rd_T71 x0 x6).f0) ((rd_T71 x0 x6).f1) (rdOf ByteArray.empty x1 x7)).bind fun t290 => (if t290 = true then (if 0 ≤ (wrap64 ((x5.length : Int) - 1)) then (if (wrap64 ((x5.length : Int) - 1)) ≤ (x5.length : Int) then (catchpitref05_Without.l0 k x0 x1 (x5.take ((wrap64 ((x5.length : Int) - 1)) : Int).toNat) (wrap64 (x6 + 1))) else (none)) else (none)) else (catchpitref05_Without.l1 k x0 x1 x5 x6 (wrap64 (x7 + 1))))) else (none)) else (none)) else (none)) else (catchpitref05_Without.l0 k x0 x1 x5 (wrap64 (x6 + 1)))
end
def catchpitref05_Without.f (k : Nat) (l0 : List (S71)) (l1 : List ByteArray) : Option ((List (S71))) := catchpitref05_Without.l0 k l0 l1 ([] : List (S71)) 0
theorem catchpitref05_Without.mono_l : ∀ k, (∀ y0 y1 y2 y3, LeO (catchpitref05_Without.l0 k y0 y1 y2 y3) (catchpitref05_Without.l0 (k + 1) y0 y1 y2 y3)) ∧ (∀ y0 y1 y2 y3 y4, LeO (catchpitref05_Without.l1 k y0 y1 y2 y3 y4) (catchpitref05_Without.l1 (k + 1) y0 y1 y2 y3 y4))
  | 0 => ⟨fun _ _ _ _ r h => by simp [catchpitref05_Without.l0] at h, fun _ _ _ _ _ r h => by simp [catchpitref05_Without.l1] at h⟩
  | k + 1 => by
    obtain ⟨ih0, ih1⟩ := catchpitref05_Without.mono_l k
    refine ⟨?_, ?_⟩
    · intro y0 y1 y2 y3
      unfold catchpitref05_Without.l0
      repeat' first
      | (with_reducible exact ih0 _ _ _ _)
      | (with_reducible exact ih1 _ _ _ _ _)
      | (with_reducible exact catchpitref05_Is.mono _ _ _ _)
      | (with_reducible exact LeO.refl _)
      | (with_reducible exact LeO.none _)
      | (with_reducible refine LeO.ite ?_ ?_)
      | (with_reducible refine LeO.bind ?_ (fun _ => ?_))
      | exact ih0 _ _ _ _
      | exact ih1 _ _ _ _ _
      | exact catchpitref05_Is.mono _ _ _ _
      | exact LeO.none _
      | refine LeO.ite ?_ ?_
      | refine LeO.bind ?_ (fun _ => ?_)
    · intro y0 y1 y2 y3 y4
      unfold catchpitref05_Without.l1
      repeat' first
      | (with_reducible exact ih0 _ _ _ _)
      | (with_reducible exact ih1 _ _ _ _ _)
      | (with_reducible exact catchpitref05_Is.mono _ _ _ _)
      | (with_reducible exact LeO.refl _)
      | (with_reducible exact LeO.none _)
      | (with_reducible refine LeO.ite ?_ ?_)
      | (with_reducible refine LeO.bind ?_ (fun _ => ?_))
      | exact ih0 _ _ _ _
      | exact ih1 _ _ _ _ _
      | exact catchpitref05_Is.mono _ _ _ _
      | exact LeO.none _
      | refine LeO.ite ?_ ?_
      | refine LeO.bind ?_ (fun _ => ?_)
theorem catchpitref05_Without.mono : ∀ a0 a1 k, LeO (catchpitref05_Without.f k a0 a1) (catchpitref05_Without.f (k + 1) a0 a1) := by
  intro a0 a1 k
  obtain ⟨ih0, ih1⟩ := catchpitref05_Without.mono_l k
  unfold catchpitref05_Without.f
  repeat' first
      | (with_reducible exact ih0 _ _ _ _)
      | (with_reducible exact ih1 _ _ _ _ _)
      | (with_reducible exact catchpitref05_Is.mono _ _ _ _)
      | (with_reducible exact LeO.refl _)
      | (with_reducible exact LeO.none _)
      | (with_reducible refine LeO.ite ?_ ?_)
      | (with_reducible refine LeO.bind ?_ (fun _ => ?_))
      | exact ih0 _ _ _ _
      | exact ih1 _ _ _ _ _
      | exact catchpitref05_Is.mono _ _ _ _
      | exact LeO.none _
      | refine LeO.ite ?_ ?_
      | refine LeO.bind ?_ (fun _ => ?_)
end Go.Proofs.YtoanmbhenmlboaaDoor.Pr
end
section
namespace Go.Proofs.YtoanmbhenmlboaaDoor.Pr
open Go.RowKit Go.Proofs.YtoanmbhenmlboaaDoorH Go.Proofs.YtoanmbhenmlboaaDoorW.PrintWords Go.Proofs.YtoanmbhenmlboaaDoorW.PrintLast Go.Proofs.YtoanmbhenmlboaaDoorW.PrintMore
attribute [local go_sem] max2_int min2_int max_two min_two max_three min_three max_four min_four   -- for this text's walks alone
set_option linter.unusedVariables false
set_option linter.unusedSimpArgs false
attribute [local go_sem high] eqA57
def catchpitlaw11_FramingPlain.j0 : Nat → Int → List (S71) → Bool → Option (Bool)
  | 0, _, _, _ => none
  | k + 1, x0, x1, x29 => if x29 = true then (some true) else ((catchpitref05_Without.f k x1 (([(⟨#[84, 114, 97, 110, 115, 102, 101, 114, 45, 69, 110, 99, 111, 100, 105, 110, 103]⟩ : ByteArray), (⟨#[67, 111, 110, 116, 101, 110, 116, 45, 76, 101, 110, 103, 116, 104]⟩ : ByteArray)] : List ByteArray))).bind fun t299 => ((framing_Request.f k t299).bind fun bt302 => ((framing_Response.f k (⟨#[71, 69, 84]⟩ : ByteArray) x0 t299).bind fun bt306 => (if bt302.2.2 = 0 then (if bt306.2.2 = 0 then (if (bt302.1 == 0 && (bt302.2.1 == 0)) = true then (some (bt306.1 == 3 && (bt306.2.1 == 0))) else (some false)) else (some false)) else (some false)))))
def catchpitlaw11_FramingPlain.f (k : Nat) (a0 : Int) (l1 : List (S71)) : Option (Bool) := (catchpitlaw11_wakes.f k).bind fun t294 => (if t294 = true then ((catchpitref05_Great.f k l1).bind fun t295 => (if t295 = true then (catchpitlaw11_FramingPlain.j0 k a0 l1 true) else (if a0 < 200 then (catchpitlaw11_FramingPlain.j0 k a0 l1 true) else (if a0 > 999 then (catchpitlaw11_FramingPlain.j0 k a0 l1 true) else (if a0 = 204 then (catchpitlaw11_FramingPlain.j0 k a0 l1 true) else (catchpitlaw11_FramingPlain.j0 k a0 l1 (a0 == 304))))))) else (some false))
theorem catchpitlaw11_FramingPlain.mono_l : ∀ k, (∀ y0 y1 y2, LeO (catchpitlaw11_FramingPlain.j0 k y0 y1 y2) (catchpitlaw11_FramingPlain.j0 (k + 1) y0 y1 y2))
  | 0 => fun _ _ _ r h => by simp [catchpitlaw11_FramingPlain.j0] at h
  | k + 1 => by
    have ih0 := catchpitlaw11_FramingPlain.mono_l k
    · intro y0 y1 y2
      unfold catchpitlaw11_FramingPlain.j0
      repeat' first
      | (with_reducible exact ih0 _ _ _)
      | (with_reducible exact catchpitlaw11_wakes.mono _)
      | (with_reducible exact catchpitref05_Great.mono _ _)
      | (with_reducible exact catchpitref05_Without.mono _ _ _)
      | (with_reducible exact framing_Request.mono _ _)
      | (with_reducible exact framing_Response.mono _ _ _ _)
      | (with_reducible exact LeO.refl _)
      | (with_reducible exact LeO.none _)
      | (with_reducible refine LeO.ite ?_ ?_)
      | (with_reducible refine LeO.bind ?_ (fun _ => ?_))
      | exact ih0 _ _ _
      | exact catchpitlaw11_wakes.mono _
      | exact catchpitref05_Great.mono _ _
      | exact catchpitref05_Without.mono _ _ _
      | exact framing_Request.mono _ _
      | exact framing_Response.mono _ _ _ _
      | exact LeO.none _
      | refine LeO.ite ?_ ?_
      | refine LeO.bind ?_ (fun _ => ?_)
theorem catchpitlaw11_FramingPlain.mono : ∀ a0 a1 k, LeO (catchpitlaw11_FramingPlain.f k a0 a1) (catchpitlaw11_FramingPlain.f (k + 1) a0 a1) := by
  intro a0 a1 k
  have ih0 := catchpitlaw11_FramingPlain.mono_l k
  unfold catchpitlaw11_FramingPlain.f
  repeat' first
      | (with_reducible exact ih0 _ _ _)
      | (with_reducible exact catchpitlaw11_wakes.mono _)
      | (with_reducible exact catchpitref05_Great.mono _ _)
      | (with_reducible exact catchpitref05_Without.mono _ _ _)
      | (with_reducible exact framing_Request.mono _ _)
      | (with_reducible exact framing_Response.mono _ _ _ _)
      | (with_reducible exact LeO.refl _)
      | (with_reducible exact LeO.none _)
      | (with_reducible refine LeO.ite ?_ ?_)
      | (with_reducible refine LeO.bind ?_ (fun _ => ?_))
      | exact ih0 _ _ _
      | exact catchpitlaw11_wakes.mono _
      | exact catchpitref05_Great.mono _ _
      | exact catchpitref05_Without.mono _ _ _
      | exact framing_Request.mono _ _
      | exact framing_Response.mono _ _ _ _
      | exact LeO.none _
      | refine LeO.ite ?_ ?_
      | refine LeO.bind ?_ (fun _ => ?_)
def catchpitref07_Has.l0 : Nat → ByteArray → List ByteArray → Int → Option (Bool)
  | 0, _, _, _ => none
  | k + 1, x0, x5, x6 => if x6 < (x5.length : Int) then (if 0 ≤ x6 then ((catchpitref07_word.f k (rdOf ByteArray.empty x5 x6)).bind fun t314 => ((catchpitref02_Small.f k t314).bind fun t315 => ((catchpitref02_Small.f k x0).bind fun t316 => (if t315.toList = t316.toList then (some true) else (catchpitref07_Has.l0 k x0 x5 (wrap64 (x6 + 1))))))) else (none)) else (some false)
def catchpitref07_Has.f (k : Nat) (a0 : ByteArray) (l1 : List ByteArray) : Option (Bool) := (catchpitref07_Items.f k l1).bind fun t310 => (catchpitref07_Has.l0 k a0 t310 0)
theorem catchpitref07_Has.mono_l : ∀ k, (∀ y0 y1 y2, LeO (catchpitref07_Has.l0 k y0 y1 y2) (catchpitref07_Has.l0 (k + 1) y0 y1 y2))
  | 0 => fun _ _ _ r h => by simp [catchpitref07_Has.l0] at h
  | k + 1 => by
    have ih0 := catchpitref07_Has.mono_l k
    · intro y0 y1 y2
      unfold catchpitref07_Has.l0
      repeat' first
      | (with_reducible exact ih0 _ _ _)
      | (with_reducible exact catchpitref02_Small.mono _ _)
      | (with_reducible exact catchpitref07_Items.mono _ _)
      | (with_reducible exact catchpitref07_word.mono _ _)
      | (with_reducible exact LeO.refl _)
      | (with_reducible exact LeO.none _)
      | (with_reducible refine LeO.ite ?_ ?_)
      | (with_reducible refine LeO.bind ?_ (fun _ => ?_))
      | exact ih0 _ _ _
      | exact catchpitref02_Small.mono _ _
      | exact catchpitref07_Items.mono _ _
      | exact catchpitref07_word.mono _ _
      | exact LeO.none _
      | refine LeO.ite ?_ ?_
      | refine LeO.bind ?_ (fun _ => ?_)
theorem catchpitref07_Has.mono : ∀ a0 a1 k, LeO (catchpitref07_Has.f k a0 a1) (catchpitref07_Has.f (k + 1) a0 a1) := by
  intro a0 a1 k
  have ih0 := catchpitref07_Has.mono_l k
  unfold catchpitref07_Has.f
  repeat' first
      | (with_reducible exact ih0 _ _ _)
      | (with_reducible exact catchpitref02_Small.mono _ _)
      | (with_reducible exact catchpitref07_Items.mono _ _)
      | (with_reducible exact catchpitref07_word.mono _ _)
      | (with_reducible exact LeO.refl _)
      | (with_reducible exact LeO.none _)
      | (with_reducible refine LeO.ite ?_ ?_)
      | (with_reducible refine LeO.bind ?_ (fun _ => ?_))
      | exact ih0 _ _ _
      | exact catchpitref02_Small.mono _ _
      | exact catchpitref07_Items.mono _ _
      | exact catchpitref07_word.mono _ _
      | exact LeO.none _
      | refine LeO.ite ?_ ?_
      | refine LeO.bind ?_ (fun _ => ?_)
def octet_Alike.f (a0 : ByteArray) (a1 : ByteArray) : Option (Bool) := (octet_Small.f a0).bind fun t317 => ((octet_Small.f a1).bind fun t318 => (some (t317.toList == t318.toList)))
def framing_Lasts.f (l0 : List (S71)) : Option (Bool) := (field_Get.f l0 (⟨#[67, 111, 110, 110, 101, 99, 116, 105, 111, 110]⟩ : ByteArray)).bind fun t319 => ((list_Has.f (⟨#[99, 108, 111, 115, 101]⟩ : ByteArray) t319).bind fun t322 => (some (!t322)))
def framing_Expects.f (l0 : List (S71)) : Option (Bool) := (field_Get.f l0 (⟨#[69, 120, 112, 101, 99, 116]⟩ : ByteArray)).bind fun t323 => ((list_Has.f (⟨#[49, 48, 48, 45, 99, 111, 110, 116, 105, 110, 117, 101]⟩ : ByteArray) t323).bind fun t326 => (some t326))
set_option maxHeartbeats 8000000 in
set_option maxRecDepth 100000 in
theorem framing_Expects.calls (A0 : Option Addr) (c0 : Nat) (l0 : List (S71)) (r : Bool) (w : World) (hr0 : Kd.C k71 w A0 l0.length l0) (hc0 : l0.length ≤ c0) (hG : TabOk w) (h : framing_Expects.f l0 = some r) :
    Calls Tryd.prog 37 #[.slice A0 l0.length c0] w fun e w' => e = .returned (.bool r) ∧ Below w.heap.size w w' := by
  have HR0 := Aside0.mk hr0
  have HC0 := Aside0.mk hc0
  clear hr0 hc0
  have HB := Aside0.mk (Below.refl w.heap.size w)
  have H : ((field_Get.f l0 (⟨#[69, 120, 112, 101, 99, 116]⟩ : ByteArray)).bind fun t323 => ((list_Has.f (⟨#[49, 48, 48, 45, 99, 111, 110, 116, 105, 110, 117, 101]⟩ : ByteArray) t323).bind fun t326 => (some t326))) = some r := h
  clear h
  replace H := Option.bind_eq_some_iff.mp H
  obtain ⟨t323, A20, H⟩ := H
  replace H : ((list_Has.f (⟨#[49, 48, 48, 45, 99, 111, 110, 116, 105, 110, 117, 101]⟩ : ByteArray) t323).bind fun t326 => (some t326)) = some r := H
  have A2 := Aside0.mk A20
  clear A20
  replace H := Option.bind_eq_some_iff.mp H
  obtain ⟨t326, A30, H⟩ := H
  replace H : (some t326) = some r := H
  have A3 := Aside0.mk A30
  clear A30
  obtain rfl := Option.some.inj H
  go_enter Tryd.func37, Tryd.ntmps37
  go_wp2_with (first | ((with_reducible refine gate_callee (f := 50) rfl ?_); refine goesL_ (some 4) rfl rfl Tryd.func50 (by kernel_rfl) rfl #[.slice A0 l0.length c0, .string (⟨#[69, 120, 112, 101, 99, 116]⟩ : ByteArray)] rfl (by (try simp only [List.map_toArray, List.map_cons, List.map_nil]); first | done | rfl | (simp only [List.length_drop, List.length_take]; rfl)) ?_; (with_reducible refine (field_Get.calls _ _ l0 (⟨#[69, 120, 112, 101, 99, 116]⟩ : ByteArray) t323 _ ?side1 ?side2 ?side3 A2.out).mono ?_); (case side1 => repeat (first | exact HR0.out | (with_reducible refine Kd.C_alloc ?_ _) | (with_reducible refine Kd.C_drewN ?_ _) | (with_reducible refine Kd.C_drew ?_))); (case side2 => exact HC0.out); (case side3 => first | exact hG | exact TabOk.drewN hG _ | exact TabOk.drewN (TabOk.drewN hG _) _ | exact TabOk.below hG (by repeat (first | (with_reducible first | exact HB.out | apply below_alloc | apply pw_below_drewN | apply below_drew1) | exact HB.out))); rintro e w4 ⟨v324, rfl, ho0, hb⟩; refine ⟨_, rfl, ?_⟩; have n0_ := Aside0.mk (Kd.R_lower ho0 (below_size (by repeat (first | (with_reducible first | exact HB.out | apply below_alloc | apply pw_below_drewN | apply below_drew1) | exact HB.out)))); have n1_ := Aside0.mk (below_step (by repeat (first | (with_reducible first | exact HB.out | apply below_alloc | apply pw_below_drewN | apply below_drew1) | exact HB.out)) hb); clear HB; have HO325 := n0_; have HB := n1_; clear n0_ n1_; (try clear hb); (try clear hb2); (try clear hk); (try clear hi); (try clear ho0); obtain ⟨Ao5, co5, eo5⟩ := Kd.R_slice HO325.out; subst eo5) | ((with_reducible refine gate_callee (f := 49) rfl ?_); refine goesL_ (some 5) rfl rfl Tryd.func49 (by kernel_rfl) rfl #[.string (⟨#[49, 48, 48, 45, 99, 111, 110, 116, 105, 110, 117, 101]⟩ : ByteArray), .slice Ao5 t323.length co5] rfl (by (try simp only [List.map_toArray, List.map_cons, List.map_nil]); first | done | rfl | (simp only [List.length_drop, List.length_take]; rfl)) ?_; (with_reducible refine (list_Has.calls (⟨#[49, 48, 48, 45, 99, 111, 110, 116, 105, 110, 117, 101]⟩ : ByteArray) _ _ t323 t326 _ ?side1 ?side2 ?side3 A3.out).mono ?_); (case side1 => repeat (first | exact (Kd.R_reads' HO325.out).2.2 | (with_reducible refine Kd.C_alloc ?_ _) | (with_reducible refine Kd.C_drewN ?_ _) | (with_reducible refine Kd.C_drew ?_))); (case side2 => exact (Kd.R_reads' HO325.out).2.1); (case side3 => first | exact hG | exact TabOk.drewN hG _ | exact TabOk.drewN (TabOk.drewN hG _) _ | exact TabOk.below hG (by repeat (first | (with_reducible first | exact HB.out | apply below_alloc | apply pw_below_drewN | apply below_drew1) | exact HB.out))); rintro e w6 ⟨rfl, hb⟩; refine ⟨_, rfl, ?_⟩; have n0_ := Aside0.mk (Kd.R_below (by (with_reducible repeat (first | apply Kd.R_alloc | apply Kd.R_drewN | apply Kd.R_drew)); exact HO325.out) hb); have n1_ := Aside0.mk (below_step (by repeat (first | (with_reducible first | exact HB.out | apply below_alloc | apply pw_below_drewN | apply below_drew1) | exact HB.out)) hb); clear HO325; clear HB; have HO325 := n0_; have HB := n1_; clear n0_ n1_; (try clear hb); (try clear hb2); (try clear hk); (try clear hi)))
  go_ret
  exact ⟨by first | rfl | (simp [errW_none, errW_some] <;> rfl) | (simp [*, errW_none, errW_some] <;> rfl), by repeat (first | (with_reducible first | exact HB.out | apply below_alloc | apply pw_below_drewN | apply below_drew1) | exact HB.out)⟩
def catchpitlaw11_FramingSays.f (k : Nat) (l0 : List (S71)) : Option (Bool) := (catchpitlaw11_wakes.f k).bind fun t327 => (if t327 = true then ((catchpitref05_Great.f k l0).bind fun t328 => (if t328 = true then (some true) else ((framing_Lasts.f l0).bind fun t329 => ((catchpitref05_Get.f k l0 (⟨#[99, 111, 110, 110, 101, 99, 116, 105, 111, 110]⟩ : ByteArray)).bind fun t330 => ((catchpitref07_Has.f k (⟨#[99, 108, 111, 115, 101]⟩ : ByteArray) t330).bind fun t333 => (if (t329 == (!t333)) = true then ((framing_Expects.f l0).bind fun t334 => ((catchpitref05_Get.f k l0 (⟨#[101, 120, 112, 101, 99, 116]⟩ : ByteArray)).bind fun t335 => ((catchpitref07_Has.f k (⟨#[49, 48, 48, 45, 99, 111, 110, 116, 105, 110, 117, 101]⟩ : ByteArray) t335).bind fun t338 => (some (t334 == t338))))) else (some false))))))) else (some false))
theorem catchpitlaw11_FramingSays.mono : ∀ a0 k, LeO (catchpitlaw11_FramingSays.f k a0) (catchpitlaw11_FramingSays.f (k + 1) a0) := by
  intro a0 k
  unfold catchpitlaw11_FramingSays.f
  repeat' first
      | (with_reducible exact catchpitlaw11_wakes.mono _)
      | (with_reducible exact catchpitref05_Get.mono _ _ _)
      | (with_reducible exact catchpitref05_Great.mono _ _)
      | (with_reducible exact catchpitref07_Has.mono _ _ _)
      | (with_reducible exact LeO.refl _)
      | (with_reducible exact LeO.none _)
      | (with_reducible refine LeO.ite ?_ ?_)
      | (with_reducible refine LeO.bind ?_ (fun _ => ?_))
      | exact catchpitlaw11_wakes.mono _
      | exact catchpitref05_Get.mono _ _ _
      | exact catchpitref05_Great.mono _ _
      | exact catchpitref07_Has.mono _ _ _
      | exact LeO.none _
      | refine LeO.ite ?_ ?_
      | refine LeO.bind ?_ (fun _ => ?_)
def catchpitlaw20_waits.f  : Option ((List (S71))) := some (([(⟨(⟨#[69, 120, 112, 101, 99, 116]⟩ : ByteArray), (⟨#[49, 48, 48, 45, 99, 111, 110, 116, 105, 110, 117, 101]⟩ : ByteArray)⟩ : S71)] : List (S71)))
set_option maxHeartbeats 8000000 in
set_option maxRecDepth 100000 in
theorem catchpitlaw20_waits.calls  (r : List (S71)) (w : World) (hG : TabOk w) (h : catchpitlaw20_waits.f  = some r) :
    Calls Tryd.prog 14 #[] w fun e w' => ∃ v0_ : Value, e = .returned (v0_) ∧ Kd.R k71 71 w' w.heap.size (fun _ => True) v0_ r ∧ Below w.heap.size w w' := by
  have hu71 := Tryd.underlying71
  have HB := Aside0.mk (Below.refl w.heap.size w)
  have H : (some (([(⟨(⟨#[69, 120, 112, 101, 99, 116]⟩ : ByteArray), (⟨#[49, 48, 48, 45, 99, 111, 110, 116, 105, 110, 117, 101]⟩ : ByteArray)⟩ : S71)] : List (S71)))) = some r := h
  clear h
  obtain ⟨y356, hy356⟩ : ∃ y_ : List (S71), y_ = (([(⟨(⟨#[69, 120, 112, 101, 99, 116]⟩ : ByteArray), (⟨#[49, 48, 48, 45, 99, 111, 110, 116, 105, 110, 117, 101]⟩ : ByteArray)⟩ : S71)] : List (S71))) := ⟨_, rfl⟩
  replace H : (some y356) = some r := by first | (rw [hy356]; with_reducible exact H) | (have H2_ := (Option.bind_some _ _).symm.trans H; rw [hy356]; with_reducible exact H2_) | (have H2_ := (Option.bind_some _ _).symm.trans H; with_reducible exact H2_) | with_reducible exact H | (rw [hy356]; exact H) | exact H
  have Ny356 := Aside0.mk hy356
  clear hy356
  obtain rfl := Option.some.inj H
  go_enter Tryd.func14, Tryd.ntmps14
  go_wp2_with (first | ((with_reducible refine gate_dst (N := 2) rfl ?_); refine Kd.R_lit k71 _ 71 ?hg (N := 2) ?hd (xs := ([(⟨(⟨#[69, 120, 112, 101, 99, 116]⟩ : ByteArray), (⟨#[49, 48, 48, 45, 99, 111, 110, 116, 105, 110, 117, 101]⟩ : ByteArray)⟩ : S71)] : List (S71))) (inner := [.string (⟨#[69, 120, 112, 101, 99, 116]⟩ : ByteArray), .string (⟨#[49, 48, 48, 45, 99, 111, 110, 116, 105, 110, 117, 101]⟩ : ByteArray)]) (ok := fun _ => True) (okp := fun _ => True) ?hr ?hp (fun _ hk => hk) trivial (Below.refl _ _) (Nat.le_refl _) (by simp) ?_; (case hd => rfl); (case hg => rfl); (case hr => first | (go_simp; done) | (go_simp; rfl)); (case hp => exact (Reps.c2 (show Kd.M k71 _ _ _ (⟨(⟨#[69, 120, 112, 101, 99, 116]⟩ : ByteArray), (⟨#[49, 48, 48, 45, 99, 111, 110, 116, 105, 110, 117, 101]⟩ : ByteArray)⟩ : S71) [.string (⟨#[69, 120, 112, 101, 99, 116]⟩ : ByteArray), .string (⟨#[49, 48, 48, 45, 99, 111, 110, 116, 105, 110, 117, 101]⟩ : ByteArray)] from (k71_mkM _ _ _ (⟨(⟨#[69, 120, 112, 101, 99, 116]⟩ : ByteArray), (⟨#[49, 48, 48, 45, 99, 111, 110, 116, 105, 110, 117, 101]⟩ : ByteArray)⟩ : S71) )) (Reps.none _ _))); intro v357 w1 ho2 hb hg_ hnew_; clear hg_ hnew_; (first | rw [← Ny356.out] at ho2 | (simp only [Int.reduceToNat] at ho2; rw [← Ny356.out] at ho2)); have n0_ := Aside0.mk (Kd.R_lower ho2 (below_size (by repeat (first | (with_reducible first | exact HB.out | apply below_alloc | apply pw_below_drewN | apply below_drew1) | exact HB.out)))); have n1_ := Aside0.mk (below_step (by repeat (first | (with_reducible first | exact HB.out | apply below_alloc | apply pw_below_drewN | apply below_drew1) | exact HB.out)) hb); clear HB; have HO358 := n0_; have HB := n1_; clear n0_ n1_; clear hb ho2))
  go_ret
  exact ⟨_, by first | rfl | (simp [errW_none, errW_some] <;> rfl) | (simp [*, errW_none, errW_some] <;> rfl), by (with_reducible repeat (first | apply Kd.R_alloc | apply Kd.R_drewN | apply Kd.R_drew)); exact HO358.out, by repeat (first | (with_reducible first | exact HB.out | apply below_alloc | apply pw_below_drewN | apply below_drew1) | exact HB.out)⟩
def expect_Handshake_goOn.f (s0_0 : Int) (s0_1 : Int) (s0_2 : ByteArray) : Option (Int × Int × ByteArray) := some (2, s0_1, (⟨#[72, 84, 84, 80, 47, 49, 46, 49, 32, 49, 48, 48, 32, 67, 111, 110, 116, 105, 110, 117, 101, 13, 10, 13, 10]⟩ : ByteArray))
end Go.Proofs.YtoanmbhenmlboaaDoor.Pr
end
section
namespace Go.Proofs.YtoanmbhenmlboaaDoorH
open Go.RowKit Go.Proofs.YtoanmbhenmlboaaDoorW.PrintWords Go.Proofs.YtoanmbhenmlboaaDoorW.PrintLast Go.Proofs.YtoanmbhenmlboaaDoorW.PrintMore Go.Proofs.YtoanmbhenmlboaaDoor.Pr
set_option maxHeartbeats 1600000 in
set_option maxRecDepth 100000 in
theorem new_calls (A0 : Option Addr) (c0 : Nat) (l : List S71) (p : Int) (r : Bool) (w : World) (hr : Kd.C k71 w A0 l.length l) (hc : l.length ≤ c0) (hG : TabOk w) (h : framing_Expects.f l = some r) (hp0 : 0 ≤ p) (hp1 : p ≤ 1073741824) :
    Calls Tryd.prog 13 #[.slice A0 l.length c0, .int .i64 p] w fun e w' =>
      e = .returned (.tuple #[.pointer (some ⟨w.heap.size, 0, none⟩), .int .i64 0]) ∧ IsH w' w.heap.size (if r = true then 1 else 0) p ⟨#[]⟩ ∧ Below w.heap.size w w' := by
  have hbd : ∀ W : World, (Instr.build 69 #[(1, .int .i64 p)]).run Tryd.prog W = .ok (.agg #[.int .i64 0, .int .i64 p, .string ⟨#[]⟩]) W := fun _ => by kernel_rfl
  have HR := Aside0.mk (Kd.C_alloc hr (.cells #[.int .i64 0, .int .i64 p, .string ⟨#[]⟩] 69))
  have HB := Aside0.mk ((Below.refl w.heap.size w).alloc (Nat.le_refl _) (.cells #[.int .i64 0, .int .i64 p, .string ⟨#[]⟩] 69))
  have HG := Aside0.mk (hG.below HB.out)
  have HH := Aside0.mk (show IsH (w.alloc (.cells #[.int .i64 0, .int .i64 p, .string ⟨#[]⟩] 69)) w.heap.size 0 p ⟨#[]⟩ from heap_alloc_new w _)
  have HC := Aside0.mk hc
  have HF := Aside0.mk h
  clear hr hG hc h
  go_enter Tryd.func13, Tryd.ntmps13
  go_wp2_with fail
  refine (framing_Expects.calls A0 c0 l r _ HR.out HC.out HG.out HF.out).mono ?_
  rintro e w1 ⟨rfl, b1⟩
  have H1 := Aside0.mk (HH.out.below b1 HH.out.lt)
  have B1 := Aside0.mk (HB.out.trans (b1.mono (by simp)))
  have h0 := H1.out.c0
  have z0 := H1.out.fz 0
  clear b1 hbd
  cases r with
  | true =>
    go_wp2
    go_ret2
    exact ⟨rfl, H1.out.s0 1, below_set B1.out (Nat.le_refl _) _ _⟩
  | false =>
    go_wp2
    go_ret2
    exact ⟨rfl, H1.out, B1.out⟩
end Go.Proofs.YtoanmbhenmlboaaDoorH
end
section
namespace Go.Proofs.YtoanmbhenmlboaaDoorH
open Go.RowKit Go.Proofs.YtoanmbhenmlboaaDoorW.PrintWords Go.Proofs.YtoanmbhenmlboaaDoorW.PrintLast Go.Proofs.YtoanmbhenmlboaaDoorW.PrintMore Go.Proofs.YtoanmbhenmlboaaDoor.Pr
def waitsL : List S71 := [(⟨(⟨#[69, 120, 112, 101, 99, 116]⟩ : ByteArray), (⟨#[49, 48, 48, 45, 99, 111, 110, 116, 105, 110, 117, 101]⟩ : ByteArray)⟩ : S71)]
theorem waits_eq : catchpitlaw20_waits.f = some waitsL := rfl
theorem waits_says : framing_Expects.f waitsL = some true := by decide +kernel
set_option maxHeartbeats 1600000 in
set_option maxRecDepth 100000 in
theorem wakes20_calls (w : World) (hG : TabOk w) :
    Calls Tryd.prog 12 #[] w fun e w' => e = .returned (.bool true) ∧ Below w.heap.size w w' := by
  have HG := Aside0.mk hG
  clear hG
  go_enter Tryd.func12, Tryd.ntmps12
  go_wp2_with fail
  refine (catchpitlaw20_waits.calls waitsL w HG.out waits_eq).mono ?_
  rintro e w1 ⟨v, rfl, hR, b1⟩
  obtain ⟨A1, c1, rfl, hc1, hC1⟩ := Kd.R_reads hR
  have HR1 := Aside0.mk hC1
  have HC1 := Aside0.mk hc1
  have B1 := Aside0.mk b1
  have HG1 := Aside0.mk (HG.out.below b1)
  clear hR hC1 hc1 b1
  go_wp2_with fail
  refine (new_calls A1 c1 waitsL 0 true w1 HR1.out HC1.out HG1.out waits_says (by decide) (by decide)).mono ?_
  rintro e w2 ⟨rfl, h2, b2⟩
  have H2 := Aside0.mk h2
  have B2 := Aside0.mk (B1.out.trans (b2.mono B1.out.size))
  have HS := Aside0.mk B1.out.size
  clear h2 b2
  rw [if_pos rfl] at H2
  generalize w1.heap.size = b at *
  go_wp2_with fail
  have ho := origin_calls b 1 0 102 ⟨#[]⟩ w2 H2.out
  rw [show originR 1 (⟨#[]⟩ : ByteArray) 102 = (1, ⟨#[]⟩) from rfl, if_neg (by decide), if_neg (by decide)] at ho
  refine ho.mono ?_
  clear ho
  rintro e w3 ⟨rfl, h3, b3⟩
  have H3 := Aside0.mk (show IsH w3 b 1 0 ⟨#[]⟩ from h3)
  have B3 := Aside0.mk (B2.out.trans (b3.1.mono HS.out))
  clear h3 b3
  go_wp2_with fail
  have ho := origin_calls b 1 0 100 ⟨#[]⟩ w3 H3.out
  rw [show originR 1 (⟨#[]⟩ : ByteArray) 100 = (2, interimS) from rfl, if_neg (by decide), if_neg (by decide)] at ho
  refine ho.mono ?_
  clear ho
  rintro e w4 ⟨rfl, h4, b4⟩
  have H4 := Aside0.mk (show IsH w4 b 2 0 interimS from h4)
  have B4 := Aside0.mk (B3.out.trans (b4.1.mono HS.out))
  clear h4 b4
  go_wp2_with fail
  have ho := reads_calls b 2 0 interimS w4 H4.out
  rw [show (decide ((2 : Int) = 0) || decide ((2 : Int) = 2) && decide (interimS.size = 0)) = false from rfl] at ho
  refine ho.mono ?_
  clear ho
  rintro e w5 ⟨rfl, rfl⟩
  go_wp2_with fail
  have ho := out_calls b 2 0 99 interimS w5 H4.out (by decide)
  rw [show outN interimS 99 = 25 from rfl] at ho
  refine ho.mono ?_
  clear ho
  rintro e w6 ⟨c6, rfl, _, h6, b6⟩
  have H6 := Aside0.mk h6
  have B6 := Aside0.mk (B4.out.trans (b6.1.mono HS.out))
  clear h6 b6
  go_wp2_with fail
  have ho := reads_calls b 2 0 _ w6 H6.out
  rw [show (decide ((2 : Int) = 0) || decide ((2 : Int) = 2) && decide ((outR interimS 99).size = 0)) = true from rfl] at ho
  refine ho.mono ?_
  clear ho
  rintro e w7 ⟨rfl, rfl⟩
  go_wp2
  go_ret
  exact ⟨rfl, B6.out⟩
end Go.Proofs.YtoanmbhenmlboaaDoorH
end
section
namespace Go.Proofs.YtoanmbhenmlboaaDoor.Ph
open Go.RowKit Go.Proofs.YtoanmbhenmlboaaDoorH Go.Proofs.YtoanmbhenmlboaaDoorW.PrintWords Go.Proofs.YtoanmbhenmlboaaDoorW.PrintLast Go.Proofs.YtoanmbhenmlboaaDoorW.PrintMore Go.Proofs.YtoanmbhenmlboaaDoor.Pr
structure S41 where
  f0 : Int
  f1 : Int
def z41 : S41 := ⟨0, 0⟩
def k41 : Kd S41 := Kd.iso (Kd.pair (Kd.int .u8) (Kd.int .i64)) (fun x : S41 => (x.f0, x.f1))
theorem k41_open {w : World} {x : S41} {cs : List Value} (h : k41.K w x cs) : cs = [.int .u8 x.f0, .int .i64 x.f1] := by
  obtain ⟨_, _, rfl, rfl, rfl⟩ := h
  exact rfl
theorem at_op {w : World} {A : Option Addr} {n : Nat} {xs : List S41} (h : Kd.C k41 w A n xs) (k : Nat) (h1 : k < n) :
    ∃ ad, A = some ad ∧ w.cell? (ad.add (k * 2)) = some (.int .u8 (xs.getD k z41).f0) ∧ w.cell? ⟨(ad.add (k * 2)).block, (ad.add (k * 2)).off + 1, none⟩ = some (.int .i64 (xs.getD k z41).f1) := by
  obtain ⟨ad, c, e, _, hK, hc0⟩ := Kd.C_get h z41 (k : Int) (by omega) (by omega)
  have hc : ∀ j u, c[j]? = some u → w.cell? (ad.add ((k : Int).toNat * 2 + j)) = some u := hc0
  obtain rfl := k41_open hK
  rw [Int.toNat_natCast] at hc
  exact ⟨ad, e, hc 0 _ rfl, by rw [← add_field _ _ 1 (by omega)]; exact hc 1 _ rfl⟩
theorem outN_nil (n : Int) : outN (⟨#[]⟩ : ByteArray) n = 0 := Nat.le_zero.1 (outN_le _ _)
theorem outR_nil (n : Int) : outR (⟨#[]⟩ : ByteArray) n = ⟨#[]⟩ := by
  have h : (outR (⟨#[]⟩ : ByteArray) n).size = 0 := by
    rw [outR_size, outN_nil]
    rfl
  exact ByteArray.ext (Array.eq_empty_of_size_eq_zero h)
theorem origin_any (b : Nat) (st pa x : Int) (lf : ByteArray) (w : World) (h : IsH w b st pa lf) :
    Calls Tryd.prog 19 #[.pointer (some ⟨b, 0, none⟩), .int .i64 x] w fun e w' =>
      ∃ v0 v1 : Int, e = .returned (.tuple #[.int .i64 v0, .int .i64 v1]) ∧ IsH w' b (originR st lf x).1 pa (originR st lf x).2 ∧ Only b w w' :=
  (origin_calls b st pa x lf w h).mono fun _ _ h => ⟨_, _, h.1, h.2⟩
def catchpitlaw20_ExpectNever.f (_a0 : Int) (_l1 : List S41) : Option Bool := some true
set_option maxHeartbeats 1600000 in
set_option maxRecDepth 100000 in
theorem catchpitlaw20_ExpectNever.calls (a0 : Int) (A1 : Option Addr) (c1 : Nat) (l1 : List S41) (r : Bool) (w : World) (hr1 : Kd.C k41 w A1 l1.length l1) (_hc1 : l1.length ≤ c1) (hG : TabOk w) (h : catchpitlaw20_ExpectNever.f a0 l1 = some r) :
    Calls Tryd.prog 5 #[.int .i64 a0, .slice A1 l1.length c1] w fun e w' => e = .returned (.bool r) ∧ Below w.heap.size w w' := by
  unfold catchpitlaw20_ExpectNever.f at h
  injection h with h
  subst h
  have HR := Aside0.mk hr1
  have HG := Aside0.mk hG
  have hmax : l1.length ≤ 9223372036854775807 := hr1.2.1
  clear hr1 hG
  go_enter Tryd.func5, Tryd.ntmps5
  go_wp2_with fail
  refine (wakes20_calls w HG.out).mono ?_
  rintro e w1 ⟨rfl, b1⟩
  have B1 := Aside0.mk b1
  have HG1 := Aside0.mk (HG.out.below b1)
  clear b1
  by_cases h50 : 50 < l1.length
  · have h50' : (50 : Int) < (l1.length : Int) := by omega
    go_wp2
    go_ret
    exact ⟨rfl, B1.out⟩
  · have h50' : decide ((50 : Int) < (l1.length : Int)) = false := by simp; omega
    have HL50 := Aside0.mk (show l1.length ≤ 50 by omega)
    clear h50
    go_wp2_with fail
    refine (catchpitlaw20_waits.calls waitsL w1 HG1.out waits_eq).mono ?_
    rintro e w2 ⟨v, rfl, hR, b2⟩
    obtain ⟨A2, c2, rfl, hc2, hC2⟩ := Kd.R_reads hR
    have HR2 := Aside0.mk hC2
    have HC2 := Aside0.mk hc2
    have B2 := Aside0.mk (B1.out.trans (b2.mono B1.out.size))
    have HG2 := Aside0.mk (HG1.out.below b2)
    clear hR hC2 hc2 b2
    go_wp2_with fail
    refine (new_calls A2 c2 waitsL 0 true w2 HR2.out HC2.out HG2.out waits_says (by decide) (by decide)).mono ?_
    rintro e w3 ⟨rfl, h3, b3⟩
    have H3 := Aside0.mk (show IsH w3 w2.heap.size 1 0 ⟨#[]⟩ from h3)
    have B3 := Aside0.mk (B2.out.trans (b3.mono B2.out.size))
    have HS := Aside0.mk B2.out.size
    clear h3 b3
    generalize w2.heap.size = b at *
    go_wp2_with fail
    have ho := origin_calls b 1 0 a0 ⟨#[]⟩ w3 H3.out
    by_cases hx : a0 < 100 ∨ 999 < a0
    · rw [if_pos hx, if_pos hx] at ho
      refine ho.mono ?_
      clear ho
      rintro e w4 ⟨rfl, h4, b4⟩
      have B4 := Aside0.mk (B3.out.trans (b4.1.mono HS.out))
      clear h4 b4
      rcases hx with hx | hx
      · have hx2 : a0 < 200 := by omega
        go_wp2
        go_ret
        exact ⟨rfl, B4.out⟩
      · have hx2 : 200 ≤ a0 := by omega
        go_wp2
        go_ret
        exact ⟨rfl, B4.out⟩
    · rw [if_neg hx, if_neg hx] at ho
      have hx1 : 100 ≤ a0 := by omega
      have hx2 : a0 ≤ 999 := by omega
      clear hx
      by_cases h200 : a0 < 200
      · refine ho.mono ?_
        clear ho
        rintro e w4 ⟨rfl, h4, b4⟩
        have B4 := Aside0.mk (B3.out.trans (b4.1.mono HS.out))
        clear h4 b4
        go_wp2
        go_ret
        exact ⟨rfl, B4.out⟩
      · have h200' : 200 ≤ a0 := by omega
        rw [show originR 1 (⟨#[]⟩ : ByteArray) a0 = (3, ⟨#[]⟩) by unfold originR; rw [if_neg (by omega), if_neg (by omega), if_neg (by omega)]] at ho
        refine ho.mono ?_
        clear ho h200
        rintro e w4 ⟨rfl, h4, b4⟩
        have H4 := Aside0.mk (show IsH w4 b 3 0 ⟨#[]⟩ from h4)
        have B4 := Aside0.mk (B3.out.trans (b4.1.mono HS.out))
        clear h4 b4
        go_wp2_with fail
        go_loopw [47] (fun u47 wr => ∃ k : Nat, k ≤ l1.length ∧ u47 = .int .i64 k ∧ Aside0 (IsH wr b 3 0 ⟨#[]⟩) ∧ Aside0 (Below w.heap.size w wr)) (fun u47 _ => l1.length - (intOf u47).toNat)
        case atStart => exact ⟨0, Nat.zero_le _, rfl, H4, B4⟩
        case round =>
          obtain ⟨k, hk, rfl, hh, hb⟩ := hrel
          by_cases hlt : k < l1.length
          · obtain ⟨ad, e, hx0, hx1'⟩ := at_op (Kd.C_below HR.out hb.out) k hlt
            cases e
            generalize l1.getD k z41 = x at *
            have HH1 := Aside0.mk (hh.out.alloc (.cells #[.int .u8 x.f0, .int .i64 x.f1] 41))
            have HB1 := Aside0.mk (hb.out.alloc hb.out.size (.cells #[.int .u8 x.f0, .int .i64 x.f1] 41))
            have HNE := Aside0.mk (Nat.ne_of_gt hh.out.lt)
            go_wp2_with fail
            have y1 : (wr.alloc (.cells #[.int .u8 x.f0, .int .i64 x.f1] 41)).cell? ⟨wr.heap.size, 1, none⟩ = some (.int .i64 x.f1) := by simp
            have ho := origin_any b 3 0 x.f1 ⟨#[]⟩ _ HH1.out
            rw [show originR 3 (⟨#[]⟩ : ByteArray) x.f1 = (3, ⟨#[]⟩) by unfold originR; rw [if_pos (.inr (.inr (by decide)))]] at ho
            refine ho.mono ?_
            clear ho hx0 hx1'
            rintro e w5 ⟨v5, u5, rfl, h5, b5⟩
            have H5 := Aside0.mk (show IsH w5 b 3 0 ⟨#[]⟩ from h5)
            have B5 := Aside0.mk (HB1.out.trans (b5.1.mono HS.out))
            have y5 := keep_cell b5.2 y1 HNE.out
            clear h5 b5 y1
            go_wp2_with fail
            have ho := tick_calls b 3 0 x.f1 ⟨#[]⟩ w5 H5.out ⟨by decide, by decide⟩
            rw [show tickR 3 0 (⟨#[]⟩ : ByteArray) x.f1 = (3, 0, ⟨#[]⟩) from rfl] at ho
            refine ho.mono ?_
            clear ho
            rintro e w6 ⟨rfl, h6, b6⟩
            have H6 := Aside0.mk (show IsH w6 b 3 0 ⟨#[]⟩ from h6)
            have B6 := Aside0.mk (B5.out.trans (b6.1.mono HS.out))
            have y6 := keep_cell b6.2 y5 HNE.out
            clear h6 b6 y5
            go_wp2_with fail
            have ho := out_calls b 3 0 x.f1 ⟨#[]⟩ w6 H6.out (by decide)
            rw [outN_nil, outR_nil] at ho
            refine ho.mono ?_
            clear ho
            rintro e w7 ⟨c7, rfl, _, h7, b7⟩
            have H7 := Aside0.mk (show IsH w7 b 3 0 ⟨#[]⟩ from h7)
            have B7 := Aside0.mk (B6.out.trans (b7.1.mono HS.out))
            clear h7 b7 y6
            go_wp2_with fail
            have ho := reads_calls b 3 0 ⟨#[]⟩ w7 H7.out
            rw [show (decide ((3 : Int) = 0) || decide ((3 : Int) = 2) && decide ((⟨#[]⟩ : ByteArray).size = 0)) = false from rfl] at ho
            refine ho.mono ?_
            clear ho
            rintro e w8 ⟨rfl, rfl⟩
            go_wp2_with fail
            refine (state_calls b 3 0 ⟨#[]⟩ w8 H7.out).mono ?_
            rintro e w9 ⟨rfl, rfl⟩
            go_wp2
            go_roundw
            case rel => exact ⟨k + 1, hlt, by go_num, H7, B7⟩
            case measure => simp [intOf]; omega
          · go_wp2_with fail
            refine (interims_calls b 3 0 ⟨#[]⟩ wr hh.out (by decide)).mono ?_
            rintro e w5 ⟨rfl, rfl⟩
            rw [if_neg (by decide)]
            go_wp2
            go_ret
            exact ⟨rfl, hb.out⟩
end Go.Proofs.YtoanmbhenmlboaaDoor.Ph
end
section
namespace Go.Proofs.YtoanmbhenmlboaaDoor.Pure
open Go.RowKit Go.Proofs.YtoanmbhenmlboaaDoorH Go.Proofs.YtoanmbhenmlboaaDoor.Ph Go.Proofs.YtoanmbhenmlboaaDoorW.PrintWords Go.Proofs.YtoanmbhenmlboaaDoorW.PrintLast
theorem ExpectNever (a : Int) (l : List S41) (_ha : (Lit.int .i64 a).wf = true) (_hl : l.length * 16 ≤ 140737488351232 ∧ ∀ y ∈ l, ((Lit.int .u8 y.f0).wf = true ∧ (Lit.int .i64 y.f1).wf = true)) : catchpitlaw20_ExpectNever.f a l = some true := rfl
end Go.Proofs.YtoanmbhenmlboaaDoor.Pure
end
section
namespace Go.Proofs.YtoanmbhenmlboaaDoorH
open Go.RowKit Go.ChangeShapes Go.WideShapes Go.ChangeAt
theorem two_of {α : Type} {l : List α} (h : l.length = 2) : ∃ a b, l = [a, b] := by
  match l, h with
  | [a, b], _ => exact ⟨a, b, rfl⟩
theorem three_of {α : Type} {l : List α} (h : l.length = 3) : ∃ a b c, l = [a, b, c] := by
  match l, h with
  | [a, b, c], _ => exact ⟨a, b, c, rfl⟩
theorem six_of {α : Type} {l : List α} (h : l.length = 6) : ∃ a b c d e f, l = [a, b, c, d, e, f] := by
  match l, h with
  | [a, b, c, d, e, f], _ => exact ⟨a, b, c, d, e, f, rfl⟩
theorem cells_of_one {W : World} {cs : List Value} {y : DataW Unit × List MemPlace} {m : Nat} {x0 : Int}
    (hd : DataW.trod (fun _ => ()) Tryd.prog W 0 (fun _ => true) false m 5 cs = some y) (hy : y.1 = .lit (.int .u8 x0)) : cs = [.int .u8 x0] := by
  obtain ⟨n, e1, e2, _⟩ := DataW.trod_int Tryd.underlying5 hd
  rw [e2] at hy
  simp only [DataW.lit.injEq, Lit.int.injEq, true_and] at hy
  rw [e1, hy]
theorem cells_of_pair {W : World} {cs : List Value} {y : DataW Unit × List MemPlace} {m : Nat} {x0 x1 : Int}
    (hd : DataW.trod (fun _ => ()) Tryd.prog W 0 (fun _ => true) false m 114 cs = some y) (hy : y.1 = .agg [.lit (.int .u8 x0), .lit (.int .u8 x1)]) :
    cs = [.int .u8 x0, .int .u8 x1] := by
  have c5 : Tryd.prog.cellsOf 5 = 1 := by kernel_rfl
  have c2 : Tryd.prog.cellsOf 114 = 2 := by kernel_rfl
  obtain ⟨xs, m, _, ex, hn, hl, hel⟩ := DataW.trod_array Tryd.underlying114 hd
  rw [c2] at hn
  obtain ⟨a, b, rfl⟩ := two_of hn
  obtain ⟨u, v, rfl⟩ := two_of hl
  · rw [ex] at hy
    simp only [List.map_cons, List.map_nil, DataW.agg.injEq, List.cons.injEq, and_true] at hy
    have h0 := hel 0 (by omega)
    have h1 := hel 1 (by omega)
    simp only [c5] at h0 h1
    have e0 := cells_of_one (y := u) (by simpa using h0) hy.1
    have e1 := cells_of_one (y := v) (by simpa using h1) hy.2
    simp at e0 e1
    rw [e0, e1]
theorem cells_of_pairs {W : World} {cs : List Value} {y : DataW Unit × List MemPlace} {m : Nat} {x0 x1 x2 x3 x4 x5 : Int}
    (hd : DataW.trod (fun _ => ()) Tryd.prog W 0 (fun _ => true) false m 115 cs = some y)
    (hy : y.1 = .agg [.agg [.lit (.int .u8 x0), .lit (.int .u8 x1)], .agg [.lit (.int .u8 x2), .lit (.int .u8 x3)], .agg [.lit (.int .u8 x4), .lit (.int .u8 x5)]]) :
    cs = [.int .u8 x0, .int .u8 x1, .int .u8 x2, .int .u8 x3, .int .u8 x4, .int .u8 x5] := by
  have c2 : Tryd.prog.cellsOf 114 = 2 := by kernel_rfl
  have c6 : Tryd.prog.cellsOf 115 = 6 := by kernel_rfl
  obtain ⟨xs, m, _, ex, hn, hl, hel⟩ := DataW.trod_array Tryd.underlying115 hd
  rw [c6] at hn
  obtain ⟨a, b, c, d, e, f, rfl⟩ := six_of hn
  obtain ⟨u, v, z, rfl⟩ := three_of hl
  · rw [ex] at hy
    simp only [List.map_cons, List.map_nil, DataW.agg.injEq, List.cons.injEq, and_true] at hy
    have h0 := hel 0 (by omega)
    have h1 := hel 1 (by omega)
    have h2 := hel 2 (by omega)
    simp only [c2] at h0 h1 h2
    have e0 := cells_of_pair (y := u) (by simpa using h0) hy.1
    have e1 := cells_of_pair (y := v) (by simpa using h1) hy.2.1
    have e2 := cells_of_pair (y := z) (by simpa using h2) hy.2.2
    simp at e0 e1 e2
    rw [e0.1, e0.2, e1.1, e1.2, e2.1, e2.2]
theorem tabOk_of_laid {W : World} {L : List (String × DataW Unit)} (h : laidMetH Tryd.prog L W) (hp : (L.all fun x => x.2.handleName?.isNone) = true)
    (hf : L.filter (fun x => x.1 == "catchpit/octet.ends") = [("catchpit/octet.ends", Go.Proofs.YtoanmbhenmlboaaDoor.Rows.laid_catchpit_octet_ends)]) (hs : W.ShapedOpen Tryd.prog) : TabOk W := by
  rw [MakeChecks.laidMetH_plain _ _ _ hp] at h
  have h2 := laidMet.filter (fun x => x.1 == "catchpit/octet.ends") h
  rw [hf] at h2
  obtain ⟨ps, ⟨g, t, cs, fuel, p, q, hg, ht, hv, hd, _, _⟩, _, _⟩ := h2
  obtain rfl := Option.some.inj ((show Tryd.prog.globalNamed "catchpit/octet.ends" = some 0 by kernel_rfl).symm.trans hg)
  obtain rfl := Option.some.inj ((show (Tryd.prog.globals[0]?).map (·.type) = some 115 by kernel_rfl).symm.trans ht)
  have e := cells_of_pairs hd rfl
  have hc := World.var?_cell hg hv
  have at_ : ∀ j, cs[j]? = cs.toList[j]? := fun j => (Array.getElem?_toList ..).symm
  rw [e] at at_
  exact ⟨(hc 0).trans (at_ 0), (hc 1).trans (at_ 1), (hc 2).trans (at_ 2), (hc 3).trans (at_ 3), (hc 4).trans (at_ 4), (hc 5).trans (at_ 5), MxOk.of_shaped hs⟩
end Go.Proofs.YtoanmbhenmlboaaDoorH
end
