import Derived.Test.YtdkecmjoenfjdaaDoorHChosen
import Derived.Test.YtdkecmjoenfjdaaDoorQBytes
import Derived.Laws.EntriesVeiled
import Derived.Laws.NewBlocks
namespace Go.Proofs.YtdkecmjoenfjdaaDoorH
open Go.RowKit Go.Proofs.YtdkecmjoenfjdaaDoorW.PrintWords Go.Proofs.YtdkecmjoenfjdaaDoorW.PrintLast Go.Proofs.YtdkecmjoenfjdaaDoorW.PrintMore Go.Proofs.YtdkecmjoenfjdaaDoor.Pr

/-! ### octet.Alike, field.Is -/
def alikeB (a b : ByteArray) : Bool := decide (smallS a = smallS b)
set_option maxHeartbeats 800000 in
set_option maxRecDepth 100000 in
theorem alike_calls (a b : ByteArray) (w : World) (ha : a.size ≤ 140737488355328) (hb : b.size ≤ 140737488355328) (hG : TabOk w) :
    Calls Tryd.prog 49 #[.string a, .string b] w fun e w' => e = .returned (.bool (alikeB a b)) ∧ Below w.heap.size w w' := by
  have HE := Aside0.mk (show alikeB a b = ((smallS a).toList == (smallS b).toList) from (beq_toList _ _).symm)
  have HG := Aside0.mk hG
  clear hG
  go_enter Tryd.func49, Tryd.ntmps49
  go_wp2_with fail
  refine (small_calls a w ha HG.out).mono ?_
  rintro e w1 ⟨rfl, b1⟩
  have B1 := Aside0.mk b1
  clear b1
  go_wp2_with fail
  refine (small_calls b w1 hb (HG.out.below B1.out)).mono ?_
  rintro e w2 ⟨rfl, b2⟩
  have B2 := Aside0.mk (B1.out.trans (b2.mono B1.out.size))
  clear b2
  go_wp2
  go_ret
  exact ⟨by rw [HE.out]; rfl, B2.out⟩

def isB (x : S24) (n : ByteArray) : Bool := alikeB x.f0 n
set_option maxHeartbeats 800000 in
set_option maxRecDepth 100000 in
theorem is_calls (x0 x1 n : ByteArray) (w : World) (ha : x0.size ≤ 140737488355328) (hb : n.size ≤ 140737488355328) (hG : TabOk w) :
    Calls Tryd.prog 23 #[.agg #[.string x0, .string x1], .string n] w fun e w' => e = .returned (.bool (alikeB x0 n)) ∧ Below w.heap.size w w' := by
  have HG := Aside0.mk hG
  clear hG
  go_enter Tryd.func23, Tryd.ntmps23
  go_wp2_with fail
  refine (alike_calls x0 n _ ha hb (HG.out.below (below_alloc (Below.refl _ _) _))).mono ?_
  rintro e w1 ⟨rfl, b1⟩
  have B1 := Aside0.mk (below_step (below_alloc (Below.refl w.heap.size w) _) b1)
  clear b1
  go_wp2
  go_ret
  exact ⟨rfl, B1.out⟩

/-! ### field.Get -/
set_option maxHeartbeats 800000 in
set_option maxRecDepth 100000 in
theorem get1_calls (x : S24) (n : ByteArray) (pb : Addr) (w : World) (ha : x.f0.size ≤ 140737488355328) (hb : n.size ≤ 140737488355328) (hG : TabOk w) (hp : w.cell? pb = some (.string n)) :
    Calls Tryd.prog 47 #[.agg #[.string x.f0, .string x.f1], .pointer (some pb)] w fun e w' => e = .returned (.bool (isB x n)) ∧ Below w.heap.size w w' := by
  have HG := Aside0.mk hG
  have hp1 := pw_cell_below (below_alloc (Below.refl w.heap.size w) (.cells #[.string x.f0, .string x.f1] 24)) hp
  clear hG hp
  go_enter Tryd.func47, Tryd.ntmps47
  go_wp2_with fail
  refine (is_calls x.f0 x.f1 n _ ha hb (HG.out.below (below_alloc (Below.refl _ _) _))).mono ?_
  rintro e w1 ⟨rfl, b1⟩
  have B1 := Aside0.mk (below_step (below_alloc (Below.refl w.heap.size w) _) b1)
  clear b1
  go_wp2
  go_ret
  exact ⟨rfl, B1.out⟩

set_option maxHeartbeats 800000 in
set_option maxRecDepth 100000 in
theorem get2_calls (x : S24) (w : World) :
    Calls Tryd.prog 48 #[.agg #[.string x.f0, .string x.f1]] w fun e w' => e = .returned (.string x.f1) ∧ Below w.heap.size w w' := by
  go_enter Tryd.func48, Tryd.ntmps48
  go_wp2
  go_ret
  exact ⟨rfl, below_alloc (Below.refl _ _) _⟩

/-- Fields whose names are no longer than what can lie in memory. -/
def fitF (l : List S24) : Bool := l.all fun x => decide (x.f0.size ≤ 140737488355328)
theorem fitF_at {l : List S24} (h : fitF l = true) (x : S24) (hx : x ∈ l) : x.f0.size ≤ 140737488355328 := of_decide_eq_true (List.all_eq_true.1 h x hx)
def getL (l : List S24) (n : ByteArray) : List ByteArray := (l.filter fun x => isB x n).map fun x => x.f1

set_option maxHeartbeats 800000 in
set_option maxRecDepth 100000 in
theorem get_calls (A0 : Option Addr) (c0 : Nat) (l : List S24) (n : ByteArray) (w : World) (hr : Kd.C k24 w A0 l.length l) (hc : l.length ≤ c0)
    (hn : l.length < 8796093022208) (hl : fitF l = true) (hb : n.size ≤ 140737488355328) (hG : TabOk w) :
    Calls Tryd.prog 22 #[.slice A0 l.length c0, .string n] w fun e w' => ∃ v, e = .returned v ∧ Kd.R Kd.string 9 w' w.heap.size (fun _ => True) v (getL l n) ∧ Below w.heap.size w w' := by
  have HB0 := Aside0.mk (below_alloc (Below.refl w.heap.size w) (.cells #[.string n] 9))
  have hp0 : (w.alloc (.cells #[.string n] 9)).cell? ⟨w.heap.size, 0, none⟩ = some (.string n) := by simp
  have H := Aside0.mk (chosenS_calls 47 48 ⟨w.heap.size, 0, none⟩ (fun x => isB x n) (fun x => x.f1) A0 c0 l (w.alloc (.cells #[.string n] 9))
    (Kd.C_below hr HB0.out) hc hn (enters_ Tryd.func47 (by kernel_rfl) rfl) (enters_ Tryd.func48 (by kernel_rfl) rfl)
    (fun x hx W hW => get1_calls x n _ W (fitF_at hl x hx) hb ((hG.below HB0.out).below hW) (pw_cell_below hW hp0))
    (fun x _ W => get2_calls x W))
  clear hr hc hn hl hb hG hp0
  go_enter Tryd.func22, Tryd.ntmps22
  go_wp2_with fail
  refine H.out.mono ?_
  rintro e w1 ⟨v, rfl, ho, b1⟩
  have O1 := Aside0.mk (Kd.R_lower (base' := w.heap.size) ho (by simp))
  have B1 := Aside0.mk (below_step HB0.out b1)
  clear ho b1 H
  go_wp2
  go_ret
  exact ⟨v, rfl, O1.out, B1.out⟩

def field_Get.f (l0 : List S24) (a1 : ByteArray) : Option (List ByteArray) := if (decide (l0.length < 8796093022208) && fitF l0 && decide (a1.size ≤ 140737488355328)) = true then some (getL l0 a1) else none
theorem field_Get.calls (A0 : Option Addr) (c0 : Nat) (l0 : List S24) (a1 : ByteArray) (r : List ByteArray) (w : World) (hr0 : Kd.C k24 w A0 l0.length l0) (hc0 : l0.length ≤ c0) (hG : TabOk w) (h : field_Get.f l0 a1 = some r) :
    Calls Tryd.prog 22 #[.slice A0 l0.length c0, .string a1] w fun e w' => ∃ v0_ : Value, e = .returned (v0_) ∧ Kd.R Kd.string 9 w' w.heap.size (fun _ => True) v0_ r ∧ Below w.heap.size w w' := by
  unfold field_Get.f at h
  split at h
  · rename_i hh
    rw [Bool.and_eq_true, Bool.and_eq_true] at hh
    injection h with h
    subst h
    exact get_calls A0 c0 l0 a1 w hr0 hc0 (of_decide_eq_true hh.1.1) hh.1.2 (of_decide_eq_true hh.2) hG
  · cases h

/-! ### field.Without -/
theorem at_str {w : World} {A : Option Addr} {n : Nat} {xs : List ByteArray} (h : Kd.C Kd.string w A n xs) (k : Nat) (hk : k < n) : ∃ ad, A = some ad ∧ w.cell? (ad.add k) = some (.string (xs.getD k ByteArray.empty)) := by
  obtain ⟨ad, c, e, _, hK, hc0⟩ := Kd.C_get h ByteArray.empty (k : Int) (by omega) (by omega)
  have hc : ∀ j u, c[j]? = some u → w.cell? (ad.add ((k : Int).toNat * 1 + j)) = some u := hc0
  rw [Int.toNat_natCast] at hK hc
  have hK : c = [.string (xs.getD k ByteArray.empty)] := hK
  subst hK
  refine ⟨ad, e, ?_⟩
  have := hc 0 _ rfl
  rwa [Nat.mul_one, Nat.add_zero] at this
theorem any_none {α : Type} (p : α → Bool) (l : List α) (d : α) (k : Nat) (h : ∀ j : Nat, j < k → p (l.getD j d) = false) (hk : k = l.length) : l.any p = false := by
  rw [List.any_eq_false]
  intro x hx
  obtain ⟨i, hi, rfl⟩ := List.mem_iff_getElem.1 hx
  have := h i (by omega)
  rw [List.getD_eq_getElem?_getD, List.getElem?_eq_getElem hi] at this
  simpa using this
theorem any_some {α : Type} (p : α → Bool) (l : List α) (d : α) (k : Nat) (hk : k < l.length) (h : p (l.getD k d) = true) : l.any p = true :=
  List.any_eq_true.2 ⟨_, mem_getD l d k hk, h⟩

set_option maxHeartbeats 1600000 in
set_option maxRecDepth 100000 in
theorem indexFunc_calls (F : Nat) (pf : Addr) (p : ByteArray → Bool) (A0 : Option Addr) (c0 : Nat) (l : List ByteArray) (w : World)
    (hr : Kd.C Kd.string w A0 l.length l) (hn : l.length < 8796093022208)
    (eF : ∀ args w, (callFunc F args).run Tryd.prog w = .ok (.enter F args) w)
    (hF : ∀ x ∈ l, ∀ W, Below w.heap.size w W → Calls Tryd.prog F #[.string x, .pointer (some pf)] W fun e W' => e = .returned (.bool (p x)) ∧ Below W.heap.size W W') :
    Calls Tryd.prog 73 #[.slice A0 l.length c0, .func (.func F) #[] #[.pointer (some pf)]] w fun e w' =>
      ∃ i : Int, e = .returned (.int .i64 i) ∧ decide (0 ≤ i) = l.any p ∧ Below w.heap.size w w' := by
  have HR := Aside0.mk hr
  have HF := Aside0.mk hF
  have HN := Aside0.mk hn
  clear hr hF
  go_enter Tryd.func73, Tryd.ntmps73
  go_wp2
  go_loopw [8] (fun v8 wr => ∃ k : Nat, k ≤ l.length ∧ v8 = .int .i64 k ∧ Aside0 (∀ j : Nat, j < k → p (l.getD j ByteArray.empty) = false) ∧ Aside0 (Below w.heap.size w wr)) (fun v8 _ => l.length - (intOf v8).toNat)
  case atStart => exact ⟨0, Nat.zero_le _, rfl, ⟨fun j hj => absurd hj (Nat.not_lt_zero _)⟩, ⟨Below.refl _ _⟩⟩
  case round =>
    obtain ⟨k, hk, rfl, ho, hb⟩ := hrel
    by_cases hlt : k < l.length
    · obtain ⟨ad, e, hx0⟩ := at_str HR.out k hlt
      cases e
      have hx0 := (hb.out.cell (World.block_lt_of_cell? w _ hx0)).trans hx0
      have HX := Aside0.mk (mem_getD l ByteArray.empty k hlt)
      have HA := Aside0.mk (any_some p l ByteArray.empty k hlt)
      have HE := Aside0.mk (show ∀ j : Nat, j < k + 1 → p (l.getD k ByteArray.empty) = false → p (l.getD j ByteArray.empty) = false from fun j hj hp => by
        rcases Nat.lt_or_ge j k with h | h
        · exact ho.out j h
        · obtain rfl : j = k := by omega
          exact hp)
      generalize l.getD k ByteArray.empty = x at *
      go_wp2_with fail
      refine (HF.out x HX.out _ hb.out).mono ?_
      rintro e w1 ⟨rfl, b1⟩
      have B1 := Aside0.mk (hb.out.trans (b1.mono hb.out.size))
      clear b1 hx0
      cases hp : p x with
      | true =>
        have HP := Aside0.mk hp
        clear hp
        go_wp2
        go_ret
        exact ⟨k, rfl, by rw [HA.out HP.out]; simp, B1.out⟩
      | false =>
        have HP := Aside0.mk hp
        clear hp
        go_wp2
        go_roundw
        case rel => exact ⟨k + 1, by omega, by go_num, ⟨fun j hj => HE.out j hj HP.out⟩, B1⟩
        case measure => simp [intOf]; omega
    · have hke : k = l.length := by omega
      have HA := Aside0.mk (any_none p l ByteArray.empty k ho.out hke)
      subst hke
      go_wp2
      go_ret
      exact ⟨-1, rfl, by rw [HA.out]; decide, hb.out⟩

set_option maxHeartbeats 800000 in
set_option maxRecDepth 100000 in
theorem containsFunc_calls (F : Nat) (pf : Addr) (p : ByteArray → Bool) (A0 : Option Addr) (c0 : Nat) (l : List ByteArray) (w : World)
    (hr : Kd.C Kd.string w A0 l.length l) (hn : l.length < 8796093022208)
    (eF : ∀ args w, (callFunc F args).run Tryd.prog w = .ok (.enter F args) w)
    (hF : ∀ x ∈ l, ∀ W, Below w.heap.size w W → Calls Tryd.prog F #[.string x, .pointer (some pf)] W fun e W' => e = .returned (.bool (p x)) ∧ Below W.heap.size W W') :
    Calls Tryd.prog 52 #[.slice A0 l.length c0, .func (.func F) #[] #[.pointer (some pf)]] w fun e w' => e = .returned (.bool (l.any p)) ∧ Below w.heap.size w w' := by
  have H := Aside0.mk (indexFunc_calls F pf p A0 c0 l w hr hn eF hF)
  clear hr hF hn eF
  go_enter Tryd.func52, Tryd.ntmps52
  go_wp2_with fail
  refine H.out.mono ?_
  rintro e w1 ⟨i, rfl, hi, b1⟩
  have HI := Aside0.mk hi
  have B1 := Aside0.mk b1
  clear hi b1 H
  go_wp2
  go_ret
  exact ⟨by rw [← HI.out]; rfl, B1.out⟩

set_option maxHeartbeats 800000 in
set_option maxRecDepth 100000 in
theorem without11_calls (x : S24) (n : ByteArray) (b : Nat) (w : World) (ha : x.f0.size ≤ 140737488355328) (hb : n.size ≤ 140737488355328) (hG : TabOk w) (hp0 : w.cell? ⟨b, 0, none⟩ = some (.string x.f0)) (hp1 : w.cell? ⟨b, 1, none⟩ = some (.string x.f1)) :
    Calls Tryd.prog 53 #[.string n, .pointer (some ⟨b, 0, none⟩)] w fun e w' => e = .returned (.bool (isB x n)) ∧ Below w.heap.size w w' := by
  have H := Aside0.mk (is_calls x.f0 x.f1 n w ha hb hG)
  clear hG
  go_enter Tryd.func53, Tryd.ntmps53
  go_wp2_with fail
  refine H.out.mono ?_
  rintro e w1 ⟨rfl, b1⟩
  have B1 := Aside0.mk b1
  clear b1
  go_wp2
  go_ret
  exact ⟨rfl, B1.out⟩

/-- Texts that are no longer than what can lie in memory. -/
def fitS (l : List ByteArray) : Bool := l.all fun x => decide (x.size ≤ 140737488355328)
theorem fitS_at {l : List ByteArray} (h : fitS l = true) (x : ByteArray) (hx : x ∈ l) : x.size ≤ 140737488355328 := of_decide_eq_true (List.all_eq_true.1 h x hx)
def namedB (names : List ByteArray) (x : S24) : Bool := names.any fun n => isB x n

set_option maxHeartbeats 800000 in
set_option maxRecDepth 100000 in
theorem without1_calls (x : S24) (bn : Nat) (A1 : Option Addr) (c1 : Nat) (names : List ByteArray) (w : World) (ha : x.f0.size ≤ 140737488355328) (hl : fitS names = true) (hn : names.length < 8796093022208)
    (hr : Kd.C Kd.string w A1 names.length names) (hG : TabOk w) (hp : w.cell? ⟨bn, 0, none⟩ = some (.slice A1 names.length c1)) :
    Calls Tryd.prog 51 #[.agg #[.string x.f0, .string x.f1], .pointer (some ⟨bn, 0, none⟩)] w fun e w' => e = .returned (.bool (namedB names x)) ∧ Below w.heap.size w w' := by
  have HB0 := Aside0.mk (below_alloc (Below.refl w.heap.size w) (.cells #[.string x.f0, .string x.f1] 24))
  have hp1 := pw_cell_below HB0.out hp
  have y0 : (w.alloc (.cells #[.string x.f0, .string x.f1] 24)).cell? ⟨w.heap.size, 0, none⟩ = some (.string x.f0) := by simp
  have y1 : (w.alloc (.cells #[.string x.f0, .string x.f1] 24)).cell? ⟨w.heap.size, 1, none⟩ = some (.string x.f1) := by simp
  have H := Aside0.mk (containsFunc_calls 53 ⟨w.heap.size, 0, none⟩ (fun n => isB x n) A1 c1 names (w.alloc (.cells #[.string x.f0, .string x.f1] 24))
    (Kd.C_below hr HB0.out) hn (enters_ Tryd.func53 (by kernel_rfl) rfl)
    (fun n hx W hW => without11_calls x n w.heap.size W ha (fitS_at hl n hx) ((hG.below HB0.out).below hW) (pw_cell_below hW y0) (pw_cell_below hW y1)))
  clear hr hG hl hn y0 y1 hp
  go_enter Tryd.func51, Tryd.ntmps51
  go_wp2_with fail
  refine H.out.mono ?_
  rintro e w1 ⟨rfl, b1⟩
  have B1 := Aside0.mk (below_step HB0.out b1)
  clear b1 H
  go_wp2
  go_ret
  exact ⟨rfl, B1.out⟩

set_option maxHeartbeats 800000 in
set_option maxRecDepth 100000 in
theorem without2_calls (x : S24) (bg bn : Nat) (A1 : Option Addr) (c1 : Nat) (names : List ByteArray) (w : World) (ha : x.f0.size ≤ 140737488355328) (hl : fitS names = true) (hn : names.length < 8796093022208)
    (hr : Kd.C Kd.string w A1 names.length names) (hG : TabOk w) (hp : w.cell? ⟨bn, 0, none⟩ = some (.slice A1 names.length c1)) (hg : w.cell? ⟨bg, 0, none⟩ = some (.func (.func 51) #[] #[.pointer (some ⟨bn, 0, none⟩)])) :
    Calls Tryd.prog 55 #[.agg #[.string x.f0, .string x.f1], .pointer (some ⟨bg, 0, none⟩)] w fun e w' => e = .returned (.bool (!(namedB names x))) ∧ Below w.heap.size w w' := by
  have HB0 := Aside0.mk (below_alloc (Below.refl w.heap.size w) (.cells #[.string x.f0, .string x.f1] 24))
  have hg1 := pw_cell_below HB0.out hg
  have eF := enters_ Tryd.func51 (by kernel_rfl) rfl
  have H := Aside0.mk (without1_calls x bn A1 c1 names (w.alloc (.cells #[.string x.f0, .string x.f1] 24)) ha hl hn (Kd.C_below hr HB0.out) (hG.below HB0.out) (pw_cell_below HB0.out hp))
  clear hr hG hl hn hp hg
  go_enter Tryd.func55, Tryd.ntmps55
  go_wp2_with fail
  refine H.out.mono ?_
  rintro e w1 ⟨rfl, b1⟩
  have B1 := Aside0.mk (below_step HB0.out b1)
  clear b1 H
  go_wp2
  go_ret
  exact ⟨rfl, B1.out⟩

set_option maxHeartbeats 800000 in
set_option maxRecDepth 100000 in
theorem without3_calls (x : S24) (w : World) :
    Calls Tryd.prog 56 #[.agg #[.string x.f0, .string x.f1]] w fun e w' => e = .returned (.agg #[.string x.f0, .string x.f1]) ∧ Below w.heap.size w w' := by
  go_enter Tryd.func56, Tryd.ntmps56
  go_wp2
  refine bodyPost_ret (results_cell_row rfl _ _ (w.heap.size + 1) 24 #[.string x.f0, .string x.f1] (0, 0) _ rfl ?_ Tryd.underlying24 rfl (by kernel_rfl)) rfl ⟨rfl, ?_⟩
  · exact Array.getElem?_push_size (xs := (w.alloc (.cells #[.string x.f0, .string x.f1] 24)).heap) |> fun h => by rw [show (w.alloc (.cells #[.string x.f0, .string x.f1] 24)).heap.size = w.heap.size + 1 from Array.size_push ..] at h; exact h
  · exact below_alloc (below_alloc (Below.refl _ _) _) _

def withoutL (l : List S24) (names : List ByteArray) : List S24 := l.filter fun x => !(namedB names x)

set_option maxHeartbeats 800000 in
set_option maxRecDepth 100000 in
theorem without_calls (A0 : Option Addr) (c0 : Nat) (l : List S24) (A1 : Option Addr) (c1 : Nat) (names : List ByteArray) (w : World) (hr : Kd.C k24 w A0 l.length l) (hc : l.length ≤ c0)
    (hn : l.length < 4398046511104) (hl : fitF l = true) (hr1 : Kd.C Kd.string w A1 names.length names) (hn1 : names.length < 8796093022208) (hl1 : fitS names = true) (hG : TabOk w) :
    Calls Tryd.prog 28 #[.slice A0 l.length c0, .slice A1 names.length c1] w fun e w' => ∃ v, e = .returned v ∧ Kd.R k24 24 w' w.heap.size (fun _ => True) v (withoutL l names) ∧ Below w.heap.size w w' := by
  have H := Aside0.mk (show ∀ W1, Below w.heap.size w W1 → W1.cell? ⟨w.heap.size, 0, none⟩ = some (.slice A1 names.length c1) → W1.cell? ⟨w.heap.size + 1, 0, none⟩ = some (.func (.func 51) #[] #[.pointer (some ⟨w.heap.size, 0, none⟩)]) →
      Calls Tryd.prog 54 #[.slice A0 l.length c0, .func (.func 55) #[] #[.pointer (some ⟨w.heap.size + 1, 0, none⟩)], .func (.func 56) #[] #[]] W1 fun e w' =>
        ∃ v, e = .returned v ∧ Kd.R k24 24 w' W1.heap.size (fun _ => True) v (withoutL l names) ∧ Below W1.heap.size W1 w' from fun W1 b1 hn2 hf =>
    chosenF_calls 55 56 ⟨w.heap.size + 1, 0, none⟩ (fun x => !(namedB names x)) A0 c0 l W1
      (Kd.C_below hr b1) hc hn (enters_ Tryd.func55 (by kernel_rfl) rfl) (enters_ Tryd.func56 (by kernel_rfl) rfl)
      (fun x hx W hW => without2_calls x (w.heap.size + 1) w.heap.size A1 c1 names W (fitF_at hl x hx) hl1 hn1 (Kd.C_below (Kd.C_below hr1 b1) hW) ((hG.below b1).below hW) (pw_cell_below hW hn2) (pw_cell_below hW hf))
      (fun x _ W => without3_calls x W))
  clear hr hc hn hl hr1 hn1 hl1 hG
  go_enter Tryd.func28, Tryd.ntmps28
  go_wp2_with fail
  refine (H.out _ (below_alloc (below_alloc (Below.refl _ _) _) _) ?n ?f).mono ?_
  case n => rw [World.cell?_alloc_past _ _ _ (by show _ < (w.heap.push _).size; rw [Array.size_push]; omega), World.cell?_alloc_at _ _ _ _ rfl]; rfl
  case f => rw [World.cell?_alloc_at _ _ _ _ (Array.size_push ..).symm]; rfl
  rintro e w1 ⟨v, rfl, ho, b1⟩
  have O1 := Aside0.mk (Kd.R_lower (base' := w.heap.size) ho (below_alloc (below_alloc (Below.refl w.heap.size w) _) _).size)
  have B1 := Aside0.mk (below_step (below_alloc (below_alloc (Below.refl w.heap.size w) _) _) b1)
  clear ho b1 H
  go_wp2
  go_ret
  exact ⟨v, rfl, O1.out, B1.out⟩

def field_Without.f (l0 : List S24) (l1 : List ByteArray) : Option (List S24) := if (decide (l0.length < 4398046511104) && fitF l0 && decide (l1.length < 8796093022208) && fitS l1) = true then some (withoutL l0 l1) else none
theorem field_Without.calls (A0 : Option Addr) (c0 : Nat) (l0 : List S24) (A1 : Option Addr) (c1 : Nat) (l1 : List ByteArray) (r : List S24) (w : World) (hr0 : Kd.C k24 w A0 l0.length l0) (hc0 : l0.length ≤ c0) (hr1 : Kd.C Kd.string w A1 l1.length l1) (_hc1 : l1.length ≤ c1) (hG : TabOk w) (h : field_Without.f l0 l1 = some r) :
    Calls Tryd.prog 28 #[.slice A0 l0.length c0, .slice A1 l1.length c1] w fun e w' => ∃ v0_ : Value, e = .returned (v0_) ∧ Kd.R k24 24 w' w.heap.size (fun _ => True) v0_ r ∧ Below w.heap.size w w' := by
  unfold field_Without.f at h
  split at h
  · rename_i hh
    rw [Bool.and_eq_true, Bool.and_eq_true, Bool.and_eq_true] at hh
    injection h with h
    subst h
    exact without_calls A0 c0 l0 A1 c1 l1 w hr0 hc0 (of_decide_eq_true hh.1.1.1) hh.1.1.2 hr1 (of_decide_eq_true hh.1.2) hh.2 hG
  · cases h
end Go.Proofs.YtdkecmjoenfjdaaDoorH
