import Derived.Test.YtdkecmjoenfjdaaDoorQLine
import Derived.Test.YtdkecmjoenfjdaaDoorHField
import Derived.Test.YtdkecmjoenfjdaaDoorPrx11
import Derived.Test.YtdkecmjoenfjdaaDoorPrx12
import Derived.Test.YtdkecmjoenfjdaaDoorPrx13
namespace Go.Proofs.YtdkecmjoenfjdaaDoorH
open Go.RowKit Go.Proofs.YtdkecmjoenfjdaaDoorW.PrintWords Go.Proofs.YtdkecmjoenfjdaaDoorW.PrintLast Go.Proofs.YtdkecmjoenfjdaaDoorW.PrintMore Go.Proofs.YtdkecmjoenfjdaaDoor.Pr

abbrev Fld := S24
def Small1 (l : List Fld) : Prop := ∀ y ∈ l, y.f0.size ≤ 140737488351232 ∧ y.f1.size ≤ 140737488351232
def sumF (l : List Fld) : Nat := (l.map fun x => x.f0.size + x.f1.size + 1).sum
theorem sumF_cons (x : Fld) (l : List Fld) : sumF (x :: l) = (x.f0.size + x.f1.size + 1) + sumF l := by simp [sumF]
theorem sumF_length : ∀ l : List Fld, l.length ≤ sumF l
  | [] => Nat.le_refl _
  | x :: l => by
    have := sumF_length l
    rw [sumF_cons, List.length_cons]
    omega
theorem sumF_at : ∀ (l : List Fld) (x : Fld), x ∈ l → x.f0.size + x.f1.size + 1 ≤ sumF l
  | y :: l, x, h => by
    rw [sumF_cons]
    rcases List.mem_cons.1 h with rfl | h
    · omega
    · have := sumF_at l x h
      omega
theorem drop_cons {α : Type} (l : List α) (d : α) (i : Nat) (h : i < l.length) : l.drop i = l.getD i d :: l.drop (i + 1) := by
  rw [List.drop_eq_getElem_cons h]
  simp [List.getD_eq_getElem?_getD, h]
theorem rd_nat (l : List Fld) (i : Nat) : rd_T24 l (i : Int) = l.getD i z24 := by
  unfold rd_T24
  rw [Int.toNat_natCast]

theorem wrapN (a b : Nat) (h : a + b < 4611686018427387904) : wrap64 ((a : Int) + (b : Int)) = ((a + b : Nat) : Int) := by unfold wrap64; omega
theorem wrapS (a : Nat) (h : a < 4611686018427387904) : wrap64 ((a : Int) + 1) = ((a + 1 : Nat) : Int) := by unfold wrap64; omega
def bigN : Nat := 600000000000000
theorem ref05_Great_l0 (l : List Fld) (hl : Small1 l) (hn : l.length ≤ 140737488351232) (d : Nat) : ∀ (i n k : Nat), i ≤ l.length → l.length - i = d → d < k → n ≤ bigN →
    catchpitref05_Great.l0 k l (n : Int) (i : Int) = some (decide (2000 < n + sumF (l.drop i))) := by
  induction d with
  | zero =>
    intro i n k h1 h2 h3 h4
    obtain ⟨k, rfl⟩ : ∃ m, k = m + 1 := ⟨k - 1, by omega⟩
    rw [catchpitref05_Great.l0, if_neg (by omega), List.drop_eq_nil_of_le (by omega)]
    congr 1
    rw [decide_eq_decide]
    show _ ↔ 2000 < n + 0
    omega
  | succ d ih =>
    intro i n k h1 h2 h3 h4
    obtain ⟨k, rfl⟩ : ∃ m, k = m + 1 := ⟨k - 1, by omega⟩
    have hi : i < l.length := by omega
    rw [catchpitref05_Great.l0, if_pos (by omega), drop_cons l z24 i hi, sumF_cons, rd_nat]
    have hx := hl _ (mem_getD l z24 i hi)
    generalize l.getD i z24 = x at *
    by_cases h : n ≤ 2000
    · rw [if_pos (by omega), if_pos (by omega)]
      have a1 : i + 1 ≤ l.length := hi
      have a2 : l.length - (i + 1) = d := by omega
      have a3 : d < k := by omega
      have a4 : n + x.f0.size + x.f1.size + 1 ≤ bigN := by unfold bigN at *; omega
      have b1 : n + x.f0.size < 4611686018427387904 := by omega
      have b2 : n + x.f0.size + x.f1.size < 4611686018427387904 := by omega
      have b4 : i < 4611686018427387904 := by omega
      have e1 := wrapN n x.f0.size b1
      have e2 := wrapN (n + x.f0.size) x.f1.size b2
      have e3 := wrapS (n + x.f0.size + x.f1.size) b2
      have e4 := wrapS i b4
      have hh := ih (i + 1) (n + x.f0.size + x.f1.size + 1) k a1 a2 a3 a4
      rw [e1, e2, e3, e4, hh]
      clear e1 e2 e3 e4 hh ih
      congr 1
      rw [decide_eq_decide]
      omega
    · rw [if_neg (by omega)]
      congr 1
      rw [decide_eq_decide]
      omega
theorem ref05_Great (l : List Fld) (hl : Small1 l) (hn : l.length ≤ 140737488351232) : Ev (fun k => catchpitref05_Great.f k l) (decide (2000 < sumF l)) := by
  refine ⟨l.length + 1, fun k hk => ?_⟩
  have := ref05_Great_l0 l hl hn l.length 0 0 k (Nat.zero_le _) rfl (by omega) (Nat.zero_le _)
  rw [Nat.zero_add, List.drop_zero] at this
  exact this

theorem ref05_Is (x : Fld) (n : ByteArray) (hx : x.f0.size ≤ 140737488351232) (hn : n.size ≤ 140737488351232) : Ev (fun k => catchpitref05_Is.f k x.f0 x.f1 n) (isB x n) := by
  obtain ⟨K1, h1⟩ := ref02_Small x.f0 (by omega)
  obtain ⟨K2, h2⟩ := ref02_Small n (by omega)
  refine ⟨K1 + K2, fun k hk => ?_⟩
  have h1 := h1 k (by omega)
  have h2 := h2 k (by omega)
  simp only at h1 h2
  show catchpitref05_Is.f k x.f0 x.f1 n = _
  rw [catchpitref05_Is.f, h1, Option.bind_some, h2, Option.bind_some, beq_toList]
  rfl
theorem field_Is_eq (x : Fld) (n : ByteArray) (hx : x.f0.size ≤ 140737488351232) (hn : n.size ≤ 140737488351232) : field_Is.f x.f0 x.f1 n = some (isB x n) := by
  unfold field_Is.f octet_Alike.f octet_Small.f
  rw [if_pos (by omega), if_pos (by omega), Option.bind_some, Option.bind_some, Option.bind_some, beq_toList]
  rfl
theorem ev_all {α : Type} (F : Nat → α → Option Bool) (p : α → Bool) : ∀ l : List α, (∀ x ∈ l, Ev (fun k => F k x) (p x)) → ∃ K, ∀ k, K ≤ k → ∀ x ∈ l, F k x = some (p x)
  | [], _ => ⟨0, fun _ _ x hx => by cases hx⟩
  | a :: l, h => by
    obtain ⟨K1, h1⟩ := h a (List.mem_cons_self ..)
    obtain ⟨K2, h2⟩ := ev_all F p l (fun x hx => h x (List.mem_cons_of_mem _ hx))
    refine ⟨K1 + K2, fun k hk x hx => ?_⟩
    rcases List.mem_cons.1 hx with rfl | hx
    · exact h1 k (by omega)
    · exact h2 k (by omega) x hx
theorem getL_step (l : List Fld) (n : ByteArray) (i : Nat) (h : i < l.length) : getL (l.take (i + 1)) n = getL (l.take i) n ++ (if isB (l.getD i z24) n then [(l.getD i z24).f1] else []) := by
  rw [take_one l z24 i h]
  unfold getL
  rw [List.filter_append, List.map_append]
  generalize l.getD i z24 = y
  congr 1
  cases hb : isB y n with
  | true => rw [List.filter_cons_of_pos (p := fun x => isB x n) hb]; rfl
  | false => rw [List.filter_cons_of_neg (p := fun x => isB x n) (by simp [hb])]; rfl
theorem getL_length (l : List Fld) (n : ByteArray) : (getL l n).length ≤ l.length := by
  unfold getL
  rw [List.length_map]
  exact List.length_filter_le _ _
theorem ref05_Get (l : List Fld) (n : ByteArray) (hl : Small1 l) (hn : n.size ≤ 140737488351232) (hc : l.length ≤ 100000) : Ev (fun k => catchpitref05_Get.f k l n) (getL l n) := by
  obtain ⟨K, hK⟩ := ev_all (fun k (x : Fld) => catchpitref05_Is.f k x.f0 x.f1 n) (fun x => isB x n) l (fun x hx => ref05_Is x n (hl x hx).1 hn)
  have hl0 : ∀ d i k : Nat, i ≤ l.length → l.length - i = d → K + d < k → catchpitref05_Get.l0 k l n (getL (l.take i) n) (i : Int) = some (getL l n) := by
    intro d
    induction d with
    | zero =>
      intro i k h1 h2 h3
      obtain ⟨k, rfl⟩ : ∃ m, k = m + 1 := ⟨k - 1, by omega⟩
      rw [catchpitref05_Get.l0, if_neg (by omega), List.take_of_length_le (by omega)]
    | succ d ih =>
      intro i k h1 h2 h3
      obtain ⟨k, rfl⟩ : ∃ m, k = m + 1 := ⟨k - 1, by omega⟩
      have hi : i < l.length := by omega
      have hlen := getL_length (l.take i) n
      have hst := getL_step l n i hi
      have hi2 := ih (i + 1) k (by omega) (by omega) (by omega)
      have hq := hK k (by omega) _ (mem_getD l z24 i hi)
      rw [List.length_take] at hlen
      rw [catchpitref05_Get.l0, if_pos (by omega), if_pos (by omega), rd_nat, hq, Option.bind_some, show wrap64 ((i : Int) + 1) = ((i + 1 : Nat) : Int) by unfold wrap64; omega]
      rw [hst] at hi2
      cases hb : isB (l.getD i z24) n with
      | true =>
        rw [hb, if_pos rfl] at hi2
        rw [if_pos rfl, if_pos (by omega)]
        exact hi2
      | false =>
        rw [hb, if_neg (by simp), List.append_nil] at hi2
        rw [if_neg (by simp)]
        exact hi2
  refine ⟨K + l.length + 1, fun k hk => ?_⟩
  have := hl0 l.length 0 k (by omega) (by omega) (by omega)
  exact this
theorem field_Get_eq (l : List Fld) (n : ByteArray) (hl : Small1 l) (hn : n.size ≤ 140737488351232) (hc : l.length ≤ 100000) : field_Get.f l n = some (getL l n) := by
  unfold field_Get.f
  have hf : fitF l = true := List.all_eq_true.2 fun x hx => decide_eq_true (by have := (hl x hx).1; omega)
  rw [hf, decide_eq_true (by omega), decide_eq_true (by omega)]
  rfl
theorem ref05_Texts (a : List ByteArray) (hc : a.length ≤ 1000000) : Ev (fun k => catchpitref05_Texts.f k a a) true := by
  have hl0 : ∀ d i k : Nat, i ≤ a.length → a.length - i = d → d < k → catchpitref05_Texts.l0 k a a (i : Int) = some true := by
    intro d
    induction d with
    | zero =>
      intro i k h1 h2 h3
      obtain ⟨k, rfl⟩ : ∃ m, k = m + 1 := ⟨k - 1, by omega⟩
      rw [catchpitref05_Texts.l0, if_neg (by omega)]
    | succ d ih =>
      intro i k h1 h2 h3
      obtain ⟨k, rfl⟩ : ∃ m, k = m + 1 := ⟨k - 1, by omega⟩
      rw [catchpitref05_Texts.l0, if_pos (by omega), if_pos (by omega), if_pos (by omega), if_pos rfl, show wrap64 ((i : Int) + 1) = ((i + 1 : Nat) : Int) by unfold wrap64; omega]
      exact ih (i + 1) k (by omega) (by omega) (by omega)
  refine ⟨a.length + 1, fun k hk => ?_⟩
  show catchpitref05_Texts.f k a a = _
  rw [catchpitref05_Texts.f, if_pos rfl]
  exact hl0 a.length 0 k (by omega) (by omega) (by omega)
theorem ref05_Fields (a : List Fld) (hc : a.length ≤ 1000000) : Ev (fun k => catchpitref05_Fields.f k a a) true := by
  have hl0 : ∀ d i k : Nat, i ≤ a.length → a.length - i = d → d < k → catchpitref05_Fields.l0 k a a (i : Int) = some true := by
    intro d
    induction d with
    | zero =>
      intro i k h1 h2 h3
      obtain ⟨k, rfl⟩ : ∃ m, k = m + 1 := ⟨k - 1, by omega⟩
      rw [catchpitref05_Fields.l0, if_neg (by omega)]
    | succ d ih =>
      intro i k h1 h2 h3
      obtain ⟨k, rfl⟩ : ∃ m, k = m + 1 := ⟨k - 1, by omega⟩
      rw [catchpitref05_Fields.l0, if_pos (by omega), if_pos (by omega), if_pos (by omega), if_neg (by simp), show wrap64 ((i : Int) + 1) = ((i + 1 : Nat) : Int) by unfold wrap64; omega]
      exact ih (i + 1) k (by omega) (by omega) (by omega)
  refine ⟨a.length + 1, fun k hk => ?_⟩
  show catchpitref05_Fields.f k a a = _
  rw [catchpitref05_Fields.f, if_pos rfl]
  exact hl0 a.length 0 k (by omega) (by omega) (by omega)
theorem field_Without_eq (l : List Fld) (names : List ByteArray) (hl : Small1 l) (hn : ∀ y ∈ names, y.size ≤ 140737488351232) (hc : l.length ≤ 100000) (hd : names.length ≤ 100000) : field_Without.f l names = some (withoutL l names) := by
  unfold field_Without.f
  have hf : fitF l = true := List.all_eq_true.2 fun x hx => decide_eq_true (by have := (hl x hx).1; omega)
  have hs : fitS names = true := List.all_eq_true.2 fun x hx => decide_eq_true (by have := hn x hx; omega)
  rw [hf, hs, decide_eq_true (by omega), decide_eq_true (by omega)]
  rfl
theorem withoutL_cons (x : Fld) (l : List Fld) (names : List ByteArray) : withoutL (x :: l) names = (if namedB names x then [] else [x]) ++ withoutL l names := by
  unfold withoutL
  cases h : namedB names x with
  | true => rw [List.filter_cons_of_neg (by simp [h])]; rfl
  | false => rw [List.filter_cons_of_pos (by simp [h])]; rfl
theorem ref05_Without (l : List Fld) (names : List ByteArray) (hl : Small1 l) (hn : ∀ y ∈ names, y.size ≤ 140737488351232) (hc : l.length ≤ 100000) (hd : names.length ≤ 100000) : Ev (fun k => catchpitref05_Without.f k l names) (withoutL l names) := by
  have hK : ∃ K, ∀ k, K ≤ k → ∀ x ∈ l, ∀ n ∈ names, catchpitref05_Is.f k x.f0 x.f1 n = some (isB x n) := by
    have : ∀ q : List Fld, Small1 q → ∃ K, ∀ k, K ≤ k → ∀ x ∈ q, ∀ n ∈ names, catchpitref05_Is.f k x.f0 x.f1 n = some (isB x n) := by
      intro q
      induction q with
      | nil => exact fun _ => ⟨0, fun _ _ x hx => by cases hx⟩
      | cons a q ih =>
        intro hq
        obtain ⟨K1, h1⟩ := ih (fun y hy => hq y (List.mem_cons_of_mem _ hy))
        obtain ⟨K2, h2⟩ := ev_all (fun k n => catchpitref05_Is.f k a.f0 a.f1 n) (fun n => isB a n) names (fun n hn' => ref05_Is a n (hq a (List.mem_cons_self ..)).1 (hn n hn'))
        refine ⟨K1 + K2, fun k hk x hx n hn' => ?_⟩
        rcases List.mem_cons.1 hx with rfl | hx
        · exact h2 k (by omega) n hn'
        · exact h1 k (by omega) x hx n hn'
    exact this l hl
  obtain ⟨K, hK⟩ := hK
  have hl1 : ∀ (x : Fld) (i : Nat), i < l.length → l.getD i z24 = x → ∀ (out : List Fld) (B : Nat) (r : List Fld), out.length ≤ 100000 →
      (∀ k, B ≤ k → catchpitref05_Without.l0 k l names (out ++ (if namedB names x then [] else [x])) ((i + 1 : Nat) : Int) = some r) →
      ∀ d j k : Nat, j ≤ names.length → names.length - j = d → (∀ m : Nat, m < j → isB x (names.getD m ByteArray.empty) = false) → B + K + d < k → catchpitref05_Without.l1 k l names (out ++ [x]) (i : Int) (j : Int) = some r := by
    intro x i hi hx out B r hout hB d
    have hw : wrap64 ((i : Int) + 1) = ((i + 1 : Nat) : Int) := by unfold wrap64; omega
    have hxl : x ∈ l := hx ▸ mem_getD l z24 i hi
    induction d with
    | zero =>
      intro j k h1 h2 hno hk
      obtain ⟨k, rfl⟩ : ∃ m, k = m + 1 := ⟨k - 1, by omega⟩
      have hnn : namedB names x = false := any_none (fun n => isB x n) names ByteArray.empty j hno (by omega)
      rw [catchpitref05_Without.l1, if_neg (by omega), hw]
      have := hB k (by omega)
      rw [hnn, if_neg (by simp)] at this
      exact this
    | succ d ih =>
      intro j k h1 h2 hno hk
      obtain ⟨k, rfl⟩ : ∃ m, k = m + 1 := ⟨k - 1, by omega⟩
      have hj : j < names.length := by omega
      have hq := hK k (by omega) x hxl _ (mem_getD names ByteArray.empty j hj)
      rw [catchpitref05_Without.l1, if_pos (by omega), if_pos (by omega), if_pos (by omega), if_pos (by omega), rd_nat, hx, show rdOf ByteArray.empty names (j : Int) = names.getD j ByteArray.empty by unfold rdOf; rw [Int.toNat_natCast], hq, Option.bind_some]
      cases hb : isB x (names.getD j ByteArray.empty) with
      | true =>
        have hnn : namedB names x = true := any_some (fun n => isB x n) names ByteArray.empty j hj hb
        have hlen : (out ++ [x]).length = out.length + 1 := by simp
        have e1 : wrap64 (((out ++ [x]).length : Int) - 1) = ((out.length : Nat) : Int) := by rw [hlen]; unfold wrap64; omega
        have := hB k (by omega)
        rw [hnn, if_pos rfl, List.append_nil] at this
        rw [if_pos rfl, e1, if_pos (by omega), if_pos (by omega), Int.toNat_natCast, List.take_left, hw]
        exact this
      | false =>
        rw [if_neg (by simp), show wrap64 ((j : Int) + 1) = ((j + 1 : Nat) : Int) by unfold wrap64; omega]
        refine ih (j + 1) k (by omega) (by omega) (fun m hm => ?_) (by omega)
        rcases Nat.lt_or_ge m j with h | h
        · exact hno m h
        · obtain rfl : m = j := by omega
          exact hb
  have hl0 : ∀ d i : Nat, i ≤ l.length → l.length - i = d → ∀ out : List Fld, out.length ≤ i → ∃ B, ∀ k, B ≤ k → catchpitref05_Without.l0 k l names out (i : Int) = some (out ++ withoutL (l.drop i) names) := by
    intro d
    induction d with
    | zero =>
      intro i h1 h2 out ho
      refine ⟨1, fun k hk => ?_⟩
      obtain ⟨k, rfl⟩ : ∃ m, k = m + 1 := ⟨k - 1, by omega⟩
      rw [catchpitref05_Without.l0, if_neg (by omega), List.drop_eq_nil_of_le (by omega)]
      simp [withoutL]
    | succ d ih =>
      intro i h1 h2 out ho
      have hi : i < l.length := by omega
      have hlen : (out ++ (if namedB names (l.getD i z24) then [] else [l.getD i z24])).length ≤ i + 1 := by
        rw [List.length_append]
        split <;> simp <;> omega
      obtain ⟨B, hB⟩ := ih (i + 1) (by omega) (by omega) _ hlen
      refine ⟨B + K + names.length + 2, fun k hk => ?_⟩
      obtain ⟨k, rfl⟩ : ∃ m, k = m + 1 := ⟨k - 1, by omega⟩
      rw [catchpitref05_Without.l0, if_pos (by omega), if_pos (by omega), if_pos (by omega), rd_nat]
      have := hl1 (l.getD i z24) i hi rfl out B (out ++ withoutL (l.drop i) names) (by omega) (fun k hk => by
        rw [hB k hk, drop_cons l z24 i hi, withoutL_cons, List.append_assoc]) names.length 0 k (by omega) (by omega) (fun m hm => absurd hm (Nat.not_lt_zero _)) (by omega)
      exact this
  obtain ⟨B, hB⟩ := hl0 l.length 0 (by omega) (by omega) [] (by simp)
  refine ⟨B, fun k hk => ?_⟩
  have := hB k hk
  rw [List.nil_append, List.drop_zero] at this
  exact this
end Go.Proofs.YtdkecmjoenfjdaaDoorH
