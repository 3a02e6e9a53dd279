import Derived.Test.YtofegjgiocljlaaDoorZListLengthsP6
import Derived.Test.YtofegjgiocljlaaDoorZListLengthsP3
import Derived.Test.YtofegjgiocljlaaDoorZListLengthsP1
import Derived.Test.YtofegjgiocljlaaDoorRows
import Derived.LaidSub
import Derived.MakeChecks
import Derived.ProofKit
import Derived.OpenShut
import Derived.LaidMore
import Derived.Deep.Slices
import Derived.SizedLaws
import Derived.HandedShaped
import Derived.Handed
section
namespace Go.Proofs.YtofegjgiocljlaaDoorH
open Go.RowKit Go.Proofs.YtofegjgiocljlaaDoorW.PrintWords Go.Proofs.YtofegjgiocljlaaDoorW.PrintLast Go.Proofs.YtofegjgiocljlaaDoorW.PrintMore Go.Proofs.YtofegjgiocljlaaDoor.Pr
def alikeN (l : List Int) : Bool := l.all fun x => x == l.getD 0 0
def lastN (l : List Int) : Int := l.getLastD 0
theorem lastN_snoc (l : List Int) (x : Int) : lastN (l ++ [x]) = x := by
  unfold lastN
  rw [List.getLastD_eq_getLast?, List.getLast?_append]
  rfl
theorem lastN_mem (l : List Int) (h : l ≠ []) : lastN l ∈ l := by
  rcases List.eq_nil_or_concat l with e | ⟨m, x, e⟩
  · exact absurd e h
  · rw [List.concat_eq_append] at e
    rw [e, lastN_snoc]
    simp
theorem alikeN_all {l : List Int} (h : alikeN l = true) : ∀ x ∈ l, x = l.getD 0 0 := fun x hx => by
  have := List.all_eq_true.1 h x hx
  exact eq_of_beq this
theorem alikeN_last {l : List Int} (h : alikeN l = true) (hne : l ≠ []) : lastN l = l.getD 0 0 := alikeN_all h _ (lastN_mem l hne)
theorem alikeN_snoc (l : List Int) (x : Int) (hne : l ≠ []) : alikeN (l ++ [x]) = (alikeN l && (x == lastN l)) := by
  have e : (l ++ [x]).getD 0 0 = l.getD 0 0 := by
    cases l with
    | nil => exact absurd rfl hne
    | cons a l => rfl
  have h1 : alikeN (l ++ [x]) = (alikeN l && (x == l.getD 0 0)) := by
    show ((l ++ [x]).all fun y => y == (l ++ [x]).getD 0 0) = _
    rw [e, List.all_append, List.all_cons, List.all_nil, Bool.and_true]
    rfl
  rw [h1]
  cases ha : alikeN l with
  | false => rw [Bool.false_and, Bool.false_and]
  | true => rw [alikeN_last ha hne]
theorem foldmin_le : ∀ (l : List Int) (a : Int), l.foldl min a ≤ a ∧ ∀ x ∈ l, l.foldl min a ≤ x
  | [], a => ⟨Int.le_refl _, fun _ h => absurd h List.not_mem_nil⟩
  | b :: l, a => by
    obtain ⟨h1, h2⟩ := foldmin_le l (min a b)
    rw [List.foldl_cons]
    refine ⟨by omega, fun x hx => ?_⟩
    rcases List.mem_cons.1 hx with rfl | hx
    · omega
    · exact h2 x hx
theorem foldmax_ge : ∀ (l : List Int) (a : Int), a ≤ l.foldl max a ∧ ∀ x ∈ l, x ≤ l.foldl max a
  | [], a => ⟨Int.le_refl _, fun _ h => absurd h List.not_mem_nil⟩
  | b :: l, a => by
    obtain ⟨h1, h2⟩ := foldmax_ge l (max a b)
    rw [List.foldl_cons]
    refine ⟨by omega, fun x hx => ?_⟩
    rcases List.mem_cons.1 hx with rfl | hx
    · omega
    · exact h2 x hx
theorem fold_same : ∀ (l : List Int) (a : Int), (∀ x ∈ l, x = a) → l.foldl min a = a ∧ l.foldl max a = a
  | [], a, _ => ⟨rfl, rfl⟩
  | b :: l, a, h => by
    have hb := h b List.mem_cons_self
    subst hb
    rw [List.foldl_cons, List.foldl_cons, show min b b = b by omega, show max b b = b by omega]
    exact fold_same l b (fun x hx => h x (List.mem_cons_of_mem _ hx))
theorem minmax_alike (l : List Int) (hne : l ≠ []) : (minI l = maxI l) ↔ alikeN l = true := by
  cases l with
  | nil => exact absurd rfl hne
  | cons a l =>
    show (l.foldl min a = l.foldl max a) ↔ _
    constructor
    · intro h
      obtain ⟨h1, h2⟩ := foldmin_le l a
      obtain ⟨h3, h4⟩ := foldmax_ge l a
      refine List.all_eq_true.2 fun x hx => ?_
      show (x == a) = true
      rcases List.mem_cons.1 hx with rfl | hx
      · exact beq_self_eq_true _
      · have := h2 x hx
        have := h4 x hx
        exact beq_iff_eq.2 (by omega)
    · intro h
      obtain ⟨h1, h2⟩ := fold_same l a (fun x hx => alikeN_all h x (List.mem_cons_of_mem _ hx))
      rw [h1, h2]
theorem mem_itemsF : ∀ (xs : List ByteArray) (i : Nat) (y : Nat × ByteArray), y ∈ itemsF i xs ↔ ∃ j, j < xs.length ∧ y.1 = i + j ∧ y.2 ∈ itemsP (xs.getD j ByteArray.empty)
  | [], i, y => ⟨fun h => absurd h List.not_mem_nil, fun ⟨j, h, _⟩ => absurd h (Nat.not_lt_zero _)⟩
  | v :: xs, i, y => by
    rw [itemsF, List.mem_append]
    constructor
    · rintro (h | h)
      · obtain ⟨x, hx, rfl⟩ := List.mem_map.1 h
        exact ⟨0, Nat.succ_pos _, rfl, hx⟩
      · obtain ⟨j, h1, h2, h3⟩ := (mem_itemsF xs (i + 1) y).1 h
        exact ⟨j + 1, Nat.succ_lt_succ h1, by omega, h3⟩
    · rintro ⟨j, h1, h2, h3⟩
      cases j with
      | zero => exact .inl (List.mem_map.2 ⟨y.2, h3, by rw [Prod.ext_iff]; exact ⟨h2.symm, rfl⟩⟩)
      | succ j => exact .inr ((mem_itemsF xs (i + 1) y).2 ⟨j, Nat.lt_of_succ_lt_succ h1, by omega, h3⟩)
theorem fold_met : ∀ (l : List (Nat × ByteArray)) (m : List Int) (j : Nat), (∀ i, 0 ≤ m.getD i 0) → j < m.length →
    0 ≤ (l.foldl (fun m y => m.set y.1 (m.getD y.1 0 + 1)) m).getD j 0 ∧ ((l.foldl (fun m y => m.set y.1 (m.getD y.1 0 + 1)) m).getD j 0 = 0 ↔ m.getD j 0 = 0 ∧ ∀ y ∈ l, y.1 ≠ j)
  | [], m, j, h, _ => ⟨h j, fun e => ⟨e, fun _ h => absurd h List.not_mem_nil⟩, fun e => e.1⟩
  | y :: l, m, j, h, hj => by
    have hm : ∀ i, 0 ≤ (m.set y.1 (m.getD y.1 0 + 1)).getD i 0 := fun i => by
      rw [getD_set]
      have h1 := h i
      have h2 := h y.1
      split <;> omega
    obtain ⟨h1, h2⟩ := fold_met l (m.set y.1 (m.getD y.1 0 + 1)) j hm (by rw [List.length_set]; exact hj)
    rw [List.foldl_cons]
    refine ⟨h1, h2.trans ?_⟩
    rw [getD_set]
    have hy := h y.1
    by_cases he : y.1 = j
    · rw [if_pos ⟨he, hj⟩]
      exact ⟨fun e => by have := e.1; omega, fun e => absurd he (e.2 y List.mem_cons_self)⟩
    · rw [if_neg (fun e => he e.1)]
      exact ⟨fun e => ⟨e.1, fun z hz => (List.mem_cons.1 hz).elim (fun e => e ▸ he) (e.2 z)⟩, fun e => ⟨e.1, fun z hz => e.2 z (List.mem_cons_of_mem _ hz)⟩⟩
theorem met_iff (xs : List ByteArray) : (metL xs.length (itemsF 0 xs)).contains 0 = true ↔ ∃ j, j < xs.length ∧ itemsP (xs.getD j ByteArray.empty) = [] := by
  have hlen := metL_length xs.length (itemsF 0 xs)
  have hz : ∀ i, (0 : Int) ≤ (List.replicate xs.length (0 : Int)).getD i 0 ∧ (List.replicate xs.length (0 : Int)).getD i 0 = 0 := fun i => by
    rw [List.getD_eq_getElem?_getD, List.getElem?_replicate]
    split <;> simp
  have key : ∀ j, j < xs.length → ((metL xs.length (itemsF 0 xs)).getD j 0 = 0 ↔ itemsP (xs.getD j ByteArray.empty) = []) := by
    intro j hj
    refine (fold_met (itemsF 0 xs) (List.replicate xs.length 0) j (fun i => (hz i).1) (by rw [List.length_replicate]; exact hj)).2.trans ?_
    constructor
    · rintro ⟨_, h⟩
      rcases hq : itemsP (xs.getD j ByteArray.empty) with _ | ⟨a, r⟩
      · rfl
      · exact absurd rfl (h (j, a) ((mem_itemsF xs 0 (j, a)).2 ⟨j, hj, (Nat.zero_add j).symm, by rw [hq]; exact List.mem_cons_self⟩))
    · intro h
      refine ⟨(hz j).2, fun y hy e => ?_⟩
      obtain ⟨i, h1, h2, h3⟩ := (mem_itemsF xs 0 y).1 hy
      obtain rfl : i = j := by omega
      rw [h] at h3
      exact absurd h3 List.not_mem_nil
  rw [List.contains_iff_mem]
  constructor
  · intro h
    obtain ⟨j, hj, he⟩ := List.getElem_of_mem h
    refine ⟨j, by omega, (key j (by omega)).1 ?_⟩
    rw [List.getD_eq_getElem?_getD, List.getElem?_eq_getElem hj]
    exact he
  · rintro ⟨j, hj, h⟩
    have := (key j hj).2 h
    rw [← this]
    exact mem_getD _ 0 j (by omega)
theorem nums_snoc (l : List (Nat × ByteArray)) (y : Nat × ByteArray) : nums (l ++ [y]) = nums l ++ [(numR y.2).1] := by
  unfold nums
  rw [List.map_append]
  rfl
theorem nums_ne {l : List (Nat × ByteArray)} (h : l ≠ []) : nums l ≠ [] := fun e => h (List.map_eq_nil_iff.1 e)
theorem badN_sub {l m : List (Nat × ByteArray)} (h : ∀ y ∈ l, y ∈ m) (hb : badN l = true) : badN m = true := by
  obtain ⟨y, hy, he⟩ := List.any_eq_true.1 hb
  exact List.any_eq_true.2 ⟨y, h y hy, he⟩
theorem lenR_whole (xs : List ByteArray) (h0 : xs.length ≠ 0) (hall : ∀ j, j < xs.length → itemsP (xs.getD j ByteArray.empty) ≠ []) (hb : badN (itemsF 0 xs) = false) :
    lenR xs = if bigN (itemsF 0 xs) = true then (0, 3) else if alikeN (nums (itemsF 0 xs)) = true then (lastN (nums (itemsF 0 xs)), 0) else (0, 2) := by
  have hne : itemsF 0 xs ≠ [] := by
    obtain ⟨a, r, hq⟩ := List.exists_cons_of_ne_nil (hall 0 (by omega))
    intro e
    have := (mem_itemsF xs 0 (0, a)).2 ⟨0, by omega, rfl, by rw [hq]; exact List.mem_cons_self⟩
    rw [e] at this
    exact absurd this List.not_mem_nil
  unfold lenR
  rw [if_neg h0, if_neg (by rw [hb]; decide), if_neg (fun h => by obtain ⟨j, hj, he⟩ := (met_iff xs).1 h; exact hall j hj he)]
  by_cases hg : bigN (itemsF 0 xs) = true
  · rw [if_pos hg, if_pos hg]
  · rw [if_neg hg, if_neg hg]
    by_cases ha : alikeN (nums (itemsF 0 xs)) = true
    · rw [if_neg (fun h => h ((minmax_alike _ (nums_ne hne)).2 ha)), if_pos ha, alikeN_last ha (nums_ne hne)]
    · rw [if_pos (fun h => ha ((minmax_alike _ (nums_ne hne)).1 h)), if_neg ha]
theorem lenR_bad (xs : List ByteArray) (h0 : xs.length ≠ 0) (h : badN (itemsF 0 xs) = true ∨ ∃ j, j < xs.length ∧ itemsP (xs.getD j ByteArray.empty) = []) : lenR xs = (0, 2) := by
  unfold lenR
  rw [if_neg h0]
  by_cases hb : badN (itemsF 0 xs) = true
  · rw [if_pos hb]
  · rw [if_neg hb, if_pos ((met_iff xs).2 (h.resolve_left hb))]
theorem ref07_Length_l1 (xs : List ByteArray) (h0 : xs.length ≠ 0) (hS : sumS xs ≤ 100000000) (i : Nat) (hi : i < xs.length) (its : List ByteArray) (hits : its = itemsP (xs.getD i ByteArray.empty)) (P0 : List (Nat × ByteArray)) (hP0 : P0 = itemsF 0 (xs.take i)) (hpos : 0 < i → P0 ≠ [])
    (hK : badN (P0 ++ its.map fun y => (i, y)) = false → Ev (fun k => catchpitref07_Length.l0 k xs (bigN (P0 ++ its.map fun y => (i, y))) (alikeN (nums (P0 ++ its.map fun y => (i, y)))) (lastN (nums (P0 ++ its.map fun y => (i, y)))) (wrap64 ((i : Int) + 1))) (lenR xs)) :
    ∀ (d j : Nat) (P : List (Nat × ByteArray)), j ≤ its.length → its.length - j = d → P = P0 ++ (its.take j).map (fun y => (i, y)) → badN P = false →
    Ev (fun k => catchpitref07_Length.l1 k xs (bigN P) (alikeN (nums P)) (lastN (nums P)) (i : Int) its (j : Int)) (lenR xs) := by
  have hlen := sumS_length xs
  have hil := itemsP_length (xs.getD i ByteArray.empty)
  have his := itemsP_size (xs.getD i ByteArray.empty)
  have hvs := sumS_at xs _ (mem_getD xs ByteArray.empty i hi)
  rw [← hits] at hil his
  intro d
  induction d with
  | zero =>
    intro j P h1 h2 hP hb
    rw [List.take_of_length_le (by omega)] at hP
    subst hP
    refine ev_succ (ev_as (hK hb) fun k => ?_)
    rw [catchpitref07_Length.l1, if_neg (by omega)]
  | succ d ih =>
    intro j P h1 h2 hP hb
    have hj : j < its.length := by omega
    have hw : wrap64 ((j : Int) + 1) = ((j + 1 : Nat) : Int) := by unfold wrap64; omega
    have hij : ¬ ((i + j : Nat) : Int) > 0 → i = 0 ∧ j = 0 := fun h => by omega
    have hw2 : wrap64 ((i : Int) + (j : Int)) = ((i + j : Nat) : Int) := by unfold wrap64; omega
    have hsz := his _ (mem_getD its ByteArray.empty j hj)
    obtain ⟨K1, g1⟩ := ref07_Number (its.getD j ByteArray.empty) (by omega)
    dsimp only at g1
    have hP' : P ++ [(i, its.getD j ByteArray.empty)] = P0 ++ (its.take (j + 1)).map (fun y => (i, y)) := by
      rw [hP, take_one its ByteArray.empty j hj, List.map_append, List.append_assoc]
      rfl
    have hmem : ∀ y ∈ P ++ [(i, its.getD j ByteArray.empty)], y ∈ itemsF 0 xs := by
      intro y hy
      rw [hP', List.mem_append] at hy
      rw [itemsF_drop xs 0 (i + 1) (by omega), itemsF_take xs 0 i hi, List.mem_append, List.mem_append]
      rcases hy with h | h
      · exact .inl (.inl (by rw [← hP0]; exact h))
      · obtain ⟨z, hz, rfl⟩ := List.mem_map.1 h
        refine .inl (.inr (List.mem_map.2 ⟨z, ?_, by rw [Nat.zero_add]⟩))
        rw [← hits]
        exact (List.take_subset _ _) hz
    obtain ⟨x, e, hxe⟩ : ∃ x e, numR (its.getD j ByteArray.empty) = (x, e) := ⟨_, _, rfl⟩
    have hbs := badN_snoc P (i, its.getD j ByteArray.empty)
    have hgs := bigN_snoc P (i, its.getD j ByteArray.empty)
    have hns := nums_snoc P (i, its.getD j ByteArray.empty)
    dsimp only at hbs hgs hns
    rw [hxe] at hbs hgs hns g1
    dsimp only at hbs hgs hns
    rw [hb, Bool.false_or] at hbs
    by_cases he2 : e = 2
    · subst he2
      rw [lenR_bad xs h0 (.inl (badN_sub hmem hbs))]
      refine ev_succ ⟨K1, fun k hk => ?_⟩
      show catchpitref07_Length.l1 (k + 1) _ _ _ _ _ _ _ = _
      rw [catchpitref07_Length.l1, if_pos (by omega), if_pos (by omega), rdOf_nat, g1 k hk, Option.bind_some, if_pos rfl]
    · rw [show (e == 2) = false by simpa using he2] at hbs
      obtain ⟨K2, g2⟩ := ih (j + 1) (P ++ [(i, its.getD j ByteArray.empty)]) (by omega) (by omega) hP' hbs
      dsimp only at g2
      rw [hgs, hns, lastN_snoc] at g2
      refine ev_succ ⟨K1 + K2, fun k hk => ?_⟩
      have g := g2 k (by omega)
      show catchpitref07_Length.l1 (k + 1) _ _ _ _ _ _ _ = _
      rw [catchpitref07_Length.l1, if_pos (by omega), if_pos (by omega), rdOf_nat, g1 k (by omega), Option.bind_some, if_neg he2, hw, hw2]
      dsimp only
      by_cases hz : ((i + j : Nat) : Int) > 0
      · have hne : P ≠ [] := by
          rw [hP]
          intro h
          rw [List.append_eq_nil_iff] at h
          rcases Nat.eq_zero_or_pos i with hi0 | hi0
          · have := congrArg List.length h.2
            rw [List.length_map, List.length_take] at this
            simp only [List.length_nil] at this
            omega
          · exact hpos hi0 h.1
        rw [alikeN_snoc _ _ (nums_ne hne)] at g
        by_cases hx : x = lastN (nums P)
        · rw [show (x == lastN (nums P)) = true by rw [hx]; exact beq_self_eq_true _, Bool.and_true] at g
          by_cases he3 : e = 3
          · rw [if_pos he3, if_pos hz, if_pos hx]
            rw [show (e == 3) = true by rw [he3]; rfl, Bool.or_true] at g
            exact g
          · rw [if_neg he3, if_pos hz, if_pos hx]
            rw [show (e == 3) = false by simpa using he3, Bool.or_false] at g
            exact g
        · rw [show (x == lastN (nums P)) = false by simpa using hx, Bool.and_false] at g
          by_cases he3 : e = 3
          · rw [if_pos he3, if_pos hz, if_neg hx]
            rw [show (e == 3) = true by rw [he3]; rfl, Bool.or_true] at g
            exact g
          · rw [if_neg he3, if_pos hz, if_neg hx]
            rw [show (e == 3) = false by simpa using he3, Bool.or_false] at g
            exact g
      · have hnil : P = [] := by
          obtain ⟨e1, e2⟩ := hij hz
          rw [hP, hP0, e1, e2]
          rfl
        subst hnil
        rw [show alikeN (nums [] ++ [x]) = alikeN (nums []) by unfold alikeN nums; simp] at g
        by_cases he3 : e = 3
        · rw [if_pos he3, if_neg hz]
          rw [show (e == 3) = true by rw [he3]; rfl, Bool.or_true] at g
          exact g
        · rw [if_neg he3, if_neg hz]
          rw [show (e == 3) = false by simpa using he3, Bool.or_false] at g
          exact g
theorem ref07_Length_l0 (xs : List ByteArray) (h0 : xs.length ≠ 0) (hS : sumS xs ≤ 100000000) : ∀ (d i : Nat) (P : List (Nat × ByteArray)), i ≤ xs.length → xs.length - i = d → P = itemsF 0 (xs.take i) → badN P = false → (∀ j, j < i → itemsP (xs.getD j ByteArray.empty) ≠ []) →
    Ev (fun k => catchpitref07_Length.l0 k xs (bigN P) (alikeN (nums P)) (lastN (nums P)) (i : Int)) (lenR xs) := by
  have hlen := sumS_length xs
  intro d
  induction d with
  | zero =>
    intro i P h1 h2 hP hb hall
    rw [List.take_of_length_le (by omega)] at hP
    subst hP
    rw [lenR_whole xs h0 (fun j hj => hall j (by omega)) hb]
    refine ev_succ ⟨0, fun k _ => ?_⟩
    show catchpitref07_Length.l0 (k + 1) _ _ _ _ _ = _
    rw [catchpitref07_Length.l0, if_neg (by omega)]
    by_cases hg : bigN (itemsF 0 xs) = true
    · rw [if_pos hg, if_pos hg]
    · rw [if_neg hg, if_neg hg]
      by_cases ha : alikeN (nums (itemsF 0 xs)) = true
      · rw [if_pos ha, if_pos ha]
      · rw [if_neg ha, if_neg ha]
  | succ d ih =>
    intro i P h1 h2 hP hb hall
    have hi : i < xs.length := by omega
    have hw : wrap64 ((i : Int) + 1) = ((i + 1 : Nat) : Int) := by unfold wrap64; omega
    have hcut : (xs.take (i + 1)).drop i = [xs.getD i ByteArray.empty] := by
      rw [take_one xs ByteArray.empty i hi, List.drop_append_of_le_length (by rw [List.length_take]; omega), List.drop_of_length_le (by rw [List.length_take]; omega), List.nil_append]
    have hvs := sumS_at xs _ (mem_getD xs ByteArray.empty i hi)
    obtain ⟨K1, g1⟩ := ref07_Items [xs.getD i ByteArray.empty] (by rw [sumS_cons]; show _ + 0 ≤ _; omega)
    rw [itemsL_one] at g1
    dsimp only at g1
    have step : ∀ k, K1 ≤ k → catchpitref07_Length.l0 (k + 1) xs (bigN P) (alikeN (nums P)) (lastN (nums P)) (i : Int) = if ((itemsP (xs.getD i ByteArray.empty)).length : Int) = 0 then some (0, 2) else catchpitref07_Length.l1 k xs (bigN P) (alikeN (nums P)) (lastN (nums P)) (i : Int) (itemsP (xs.getD i ByteArray.empty)) 0 := by
      intro k hk
      rw [catchpitref07_Length.l0, if_pos (by omega), if_pos (by omega), hw, if_pos (by omega), if_pos (by omega), Int.toNat_natCast, Int.toNat_natCast, hcut, g1 k hk, Option.bind_some]
    by_cases he : itemsP (xs.getD i ByteArray.empty) = []
    · rw [lenR_bad xs h0 (.inr ⟨i, hi, he⟩)]
      refine ev_succ ⟨K1, fun k hk => ?_⟩
      show catchpitref07_Length.l0 (k + 1) _ _ _ _ _ = _
      rw [step k hk, he, if_pos (show (([] : List ByteArray).length : Int) = 0 from rfl)]
    · have hln : (itemsP (xs.getD i ByteArray.empty)).length ≠ 0 := fun h => he (List.length_eq_zero_iff.1 h)
      have hT : P ++ (itemsP (xs.getD i ByteArray.empty)).map (fun y => (i, y)) = itemsF 0 (xs.take (i + 1)) := by
        rw [itemsF_take xs 0 i hi, hP, Nat.zero_add]
      obtain ⟨K2, g2⟩ := ref07_Length_l1 xs h0 hS i hi (itemsP (xs.getD i ByteArray.empty)) rfl P hP (fun hpos e => by
          obtain ⟨a, r, hq⟩ := List.exists_cons_of_ne_nil (hall 0 hpos)
          have := (mem_itemsF (xs.take i) 0 (0, a)).2 ⟨0, by rw [List.length_take]; omega, rfl, by
            rw [show (xs.take i).getD 0 ByteArray.empty = xs.getD 0 ByteArray.empty by rw [List.getD_eq_getElem?_getD, List.getD_eq_getElem?_getD, List.getElem?_take, if_pos hpos], hq]; exact List.mem_cons_self⟩
          rw [← hP, e] at this
          exact absurd this List.not_mem_nil)
        (fun hb2 => by
          rw [hT] at hb2 ⊢
          rw [hw]
          exact ih (i + 1) (itemsF 0 (xs.take (i + 1))) (by omega) (by omega) rfl hb2 (fun j hj => by
            rcases Nat.lt_or_ge j i with h | h
            · exact hall j h
            · obtain rfl : j = i := by omega
              exact he))
        (itemsP (xs.getD i ByteArray.empty)).length 0 P (Nat.zero_le _) rfl (by simp) hb
      dsimp only at g2
      refine ev_succ ⟨K1 + K2, fun k hk => ?_⟩
      show catchpitref07_Length.l0 (k + 1) _ _ _ _ _ = _
      rw [step k (by omega), if_neg (by omega)]
      exact g2 k (by omega)
theorem ref07_Length (xs : List ByteArray) (hS : sumS xs ≤ 100000000) : Ev (fun k => catchpitref07_Length.f k xs) (lenR xs) := by
  by_cases h0 : xs.length = 0
  · refine ⟨0, fun k _ => ?_⟩
    show catchpitref07_Length.f k xs = _
    unfold catchpitref07_Length.f lenR
    rw [if_pos (by omega), if_pos h0]
  · have g := ref07_Length_l0 xs h0 hS xs.length 0 [] (Nat.zero_le _) rfl rfl rfl (fun j hj => absurd hj (Nat.not_lt_zero _))
    refine ev_as g fun k => ?_
    unfold catchpitref07_Length.f
    rw [if_neg (by omega)]
    rfl
end Go.Proofs.YtofegjgiocljlaaDoorH
end
section
namespace Go.Proofs.YtofegjgiocljlaaDoor.Pure
open Go.RowKit Go.Proofs.YtofegjgiocljlaaDoorH Go.Proofs.YtofegjgiocljlaaDoor.Pr Go.Proofs.YtofegjgiocljlaaDoorW.PrintWords Go.Proofs.YtofegjgiocljlaaDoorW.PrintLast
theorem ListLengths (l : List ByteArray) (a : ByteArray) (hl : l.length * 16 ≤ 140737488351232 ∧ ∀ y ∈ l, y.size ≤ 140737488351232) (ha : a.size ≤ 140737488351232) : ∃ k, catchpitlaw07_ListLengths.f k l a = some true := by
  obtain ⟨K1, g1⟩ := wakes07
  obtain ⟨K2, g2⟩ := law07_long l hl.2 (by omega)
  dsimp only at g1 g2
  by_cases h : 1000 < sumS l
  · refine ⟨K1 + K2 + 1, ?_⟩
    rw [catchpitlaw07_ListLengths.f, g1 _ (by omega), Option.bind_some, if_pos rfl, g2 _ (by omega), Option.bind_some, if_pos (decide_eq_true h), catchpitlaw07_ListLengths.j0, if_pos rfl]
  by_cases h2 : (a.size : Int) > 500
  · refine ⟨K1 + K2 + 1, ?_⟩
    rw [catchpitlaw07_ListLengths.f, g1 _ (by omega), Option.bind_some, if_pos rfl, g2 _ (by omega), Option.bind_some, if_neg (by rw [decide_eq_false h]; decide), catchpitlaw07_ListLengths.j0, if_pos (decide_eq_true h2)]
  obtain ⟨K3, g3⟩ := ref07_Length l (by omega)
  obtain ⟨K4, g4⟩ := ref07_Number a (by omega)
  dsimp only at g3 g4
  refine ⟨K1 + K2 + K3 + K4 + 1, ?_⟩
  rw [catchpitlaw07_ListLengths.f, g1 _ (by omega), Option.bind_some, if_pos rfl, g2 _ (by omega), Option.bind_some, if_neg (by rw [decide_eq_false h]; decide), catchpitlaw07_ListLengths.j0, if_neg (by rw [decide_eq_false h2]; decide)]
  unfold list_Length.f list_Number.f
  rw [if_pos (by omega), Option.bind_some, g3 _ (by omega), Option.bind_some, if_pos (by omega), Option.bind_some, g4 _ (by omega), Option.bind_some, if_pos rfl, if_pos rfl, if_pos rfl]
  simp
end Go.Proofs.YtofegjgiocljlaaDoor.Pure
end
section
namespace Go.Proofs.YtofegjgiocljlaaDoorH
open Go.RowKit Go.ChangeShapes Go.WideShapes Go.ChangeAt
theorem two_of {α : Type} {l : List α} (h : l.length = 2) : ∃ a b, l = [a, b] := by
  match l, h with
  | [a, b], _ => exact ⟨a, b, rfl⟩
theorem three_of {α : Type} {l : List α} (h : l.length = 3) : ∃ a b c, l = [a, b, c] := by
  match l, h with
  | [a, b, c], _ => exact ⟨a, b, c, rfl⟩
theorem six_of {α : Type} {l : List α} (h : l.length = 6) : ∃ a b c d e f, l = [a, b, c, d, e, f] := by
  match l, h with
  | [a, b, c, d, e, f], _ => exact ⟨a, b, c, d, e, f, rfl⟩
theorem cells_of_one {W : World} {cs : List Value} {y : DataW Unit × List MemPlace} {m : Nat} {x0 : Int}
    (hd : DataW.trod (fun _ => ()) Tryd.prog W 0 (fun _ => true) false m 5 cs = some y) (hy : y.1 = .lit (.int .u8 x0)) : cs = [.int .u8 x0] := by
  obtain ⟨n, e1, e2, _⟩ := DataW.trod_int Tryd.underlying5 hd
  rw [e2] at hy
  simp only [DataW.lit.injEq, Lit.int.injEq, true_and] at hy
  rw [e1, hy]
theorem cells_of_pair {W : World} {cs : List Value} {y : DataW Unit × List MemPlace} {m : Nat} {x0 x1 : Int}
    (hd : DataW.trod (fun _ => ()) Tryd.prog W 0 (fun _ => true) false m 95 cs = some y) (hy : y.1 = .agg [.lit (.int .u8 x0), .lit (.int .u8 x1)]) :
    cs = [.int .u8 x0, .int .u8 x1] := by
  have c5 : Tryd.prog.cellsOf 5 = 1 := by kernel_rfl
  have c2 : Tryd.prog.cellsOf 95 = 2 := by kernel_rfl
  obtain ⟨xs, m, _, ex, hn, hl, hel⟩ := DataW.trod_array Tryd.underlying95 hd
  rw [c2] at hn
  obtain ⟨a, b, rfl⟩ := two_of hn
  obtain ⟨u, v, rfl⟩ := two_of hl
  · rw [ex] at hy
    simp only [List.map_cons, List.map_nil, DataW.agg.injEq, List.cons.injEq, and_true] at hy
    have h0 := hel 0 (by omega)
    have h1 := hel 1 (by omega)
    simp only [c5] at h0 h1
    have e0 := cells_of_one (y := u) (by simpa using h0) hy.1
    have e1 := cells_of_one (y := v) (by simpa using h1) hy.2
    simp at e0 e1
    rw [e0, e1]
theorem cells_of_pairs {W : World} {cs : List Value} {y : DataW Unit × List MemPlace} {m : Nat} {x0 x1 x2 x3 x4 x5 : Int}
    (hd : DataW.trod (fun _ => ()) Tryd.prog W 0 (fun _ => true) false m 96 cs = some y)
    (hy : y.1 = .agg [.agg [.lit (.int .u8 x0), .lit (.int .u8 x1)], .agg [.lit (.int .u8 x2), .lit (.int .u8 x3)], .agg [.lit (.int .u8 x4), .lit (.int .u8 x5)]]) :
    cs = [.int .u8 x0, .int .u8 x1, .int .u8 x2, .int .u8 x3, .int .u8 x4, .int .u8 x5] := by
  have c2 : Tryd.prog.cellsOf 95 = 2 := by kernel_rfl
  have c6 : Tryd.prog.cellsOf 96 = 6 := by kernel_rfl
  obtain ⟨xs, m, _, ex, hn, hl, hel⟩ := DataW.trod_array Tryd.underlying96 hd
  rw [c6] at hn
  obtain ⟨a, b, c, d, e, f, rfl⟩ := six_of hn
  obtain ⟨u, v, z, rfl⟩ := three_of hl
  · rw [ex] at hy
    simp only [List.map_cons, List.map_nil, DataW.agg.injEq, List.cons.injEq, and_true] at hy
    have h0 := hel 0 (by omega)
    have h1 := hel 1 (by omega)
    have h2 := hel 2 (by omega)
    simp only [c2] at h0 h1 h2
    have e0 := cells_of_pair (y := u) (by simpa using h0) hy.1
    have e1 := cells_of_pair (y := v) (by simpa using h1) hy.2.1
    have e2 := cells_of_pair (y := z) (by simpa using h2) hy.2.2
    simp at e0 e1 e2
    rw [e0.1, e0.2, e1.1, e1.2, e2.1, e2.2]
theorem tabOk_of_laid {W : World} {L : List (String × DataW Unit)} (h : laidMetH Tryd.prog L W) (hp : (L.all fun x => x.2.handleName?.isNone) = true)
    (hf : L.filter (fun x => x.1 == "catchpit/octet.ends") = [("catchpit/octet.ends", Go.Proofs.YtofegjgiocljlaaDoor.Rows.laid_catchpit_octet_ends)]) (hs : W.ShapedOpen Tryd.prog) : TabOk W := by
  rw [MakeChecks.laidMetH_plain _ _ _ hp] at h
  have h2 := laidMet.filter (fun x => x.1 == "catchpit/octet.ends") h
  rw [hf] at h2
  obtain ⟨ps, ⟨g, t, cs, fuel, p, q, hg, ht, hv, hd, _, _⟩, _, _⟩ := h2
  obtain rfl := Option.some.inj ((show Tryd.prog.globalNamed "catchpit/octet.ends" = some 0 by kernel_rfl).symm.trans hg)
  obtain rfl := Option.some.inj ((show (Tryd.prog.globals[0]?).map (·.type) = some 96 by kernel_rfl).symm.trans ht)
  have e := cells_of_pairs hd rfl
  have hc := World.var?_cell hg hv
  have at_ : ∀ j, cs[j]? = cs.toList[j]? := fun j => (Array.getElem?_toList ..).symm
  rw [e] at at_
  exact ⟨(hc 0).trans (at_ 0), (hc 1).trans (at_ 1), (hc 2).trans (at_ 2), (hc 3).trans (at_ 3), (hc 4).trans (at_ 4), (hc 5).trans (at_ 5), MxOk.of_shaped hs⟩
end Go.Proofs.YtofegjgiocljlaaDoorH
end
section
namespace Go.Proofs.YtofegjgiocljlaaDoorH
open Go.RowKit Go.ChangeShapes Go.WideShapes Go.ChangeAt Go.Proofs.YtofegjgiocljlaaDoorW.PrintWords
def Light {H : Type} (P : Program) (t : TypeId) (d : DataW H) : Prop := ∀ x ∈ DataW.weights P t d, x ≤ reachBytes
structure Opens (P : Program) {α : Type} (d : Kd α) (t : TypeId) (G : α → Prop) : Prop where
  cells : P.cellsOf t = d.sz
  open_ : ∀ {H : Type} {enc : TypeId × Value → H} {W : World} {fuel : Nat} {cs : List Value} {x : DataW H × List MemPlace},
    DataW.trod enc P W 0 (fun _ => true) true fuel t cs = some x → Light P t x.1 → ∃ y, d.K W y cs ∧ G y
theorem Opens.int {P : Program} {t : TypeId} {k : IntKind} (hu : P.underlying t = some (.int k)) (hc : P.cellsOf t = 1) : Opens P (Kd.int k) t (fun n => (Lit.int k n).wf = true) := by
  refine ⟨hc, fun h _ => ?_⟩
  obtain ⟨n, e1, e2, wf⟩ := DataW.trod_int hu h
  exact ⟨n, e1, wf⟩
theorem Opens.bool {P : Program} {t : TypeId} (hu : P.underlying t = some .bool) (hc : P.cellsOf t = 1) : Opens P Kd.bool t (fun _ => True) := by
  refine ⟨hc, fun {_ _ _ fuel cs _} h _ => ?_⟩
  cases fuel with
  | zero => simp [DataW.trod] at h
  | succ m =>
    unfold DataW.trod at h
    rw [hu] at h
    match cs, h with
    | [.bool b], _ => exact ⟨b, rfl, trivial⟩
theorem Opens.string {P : Program} {t : TypeId} (hu : P.underlying t = some .string) (hc : P.cellsOf t = 1) : Opens P Kd.string t (fun s => s.size ≤ 140737488351232) := by
  refine ⟨hc, fun h hl => ?_⟩
  obtain ⟨s, e1, e2, _⟩ := DataW.trod_string hu h
  refine ⟨s, e1, ?_⟩
  subst e2
  have := hl s.data.toList.length (by simp [DataW.weights])
  rw [data_length] at this
  exact this
theorem weightsAll_mem {H : Type} (P : Program) (e : TypeId) : ∀ (l : List (DataW H)) (d : DataW H), d ∈ l → ∀ x ∈ DataW.weights P e d, x ∈ DataW.weightsAll P e l
  | [], d, h, _, _ => by cases h
  | a :: l, d, h, x, hx => by
    rw [DataW.weightsAll]
    rcases List.mem_cons.1 h with rfl | h
    · exact List.mem_append_left _ hx
    · exact List.mem_append_right _ (weightsAll_mem P e l d h x hx)
theorem list_of {α : Type} {p : Nat → α → Prop} : ∀ n : Nat, (∀ i, i < n → ∃ y, p i y) → ∃ l : List α, l.length = n ∧ ∀ i y, l[i]? = some y → p i y
  | 0, _ => ⟨[], rfl, fun i y h => by simp at h⟩
  | n + 1, h => by
    obtain ⟨l, hl, hp⟩ := list_of n (fun i hi => h i (by omega))
    obtain ⟨y, hy⟩ := h n (by omega)
    refine ⟨l ++ [y], by simp [hl], fun i z hz => ?_⟩
    rcases Nat.lt_or_ge i n with hi | hi
    · rw [List.getElem?_append_left (by omega)] at hz
      exact hp i z hz
    · rw [List.getElem?_append_right (by omega), hl] at hz
      rcases Nat.eq_zero_or_pos (i - n) with h0 | h0
      · rw [h0] at hz
        obtain rfl : i = n := by omega
        obtain rfl : y = z := by simpa using hz
        exact hy
      · rw [List.getElem?_eq_none (by simp; omega)] at hz
        cases hz
theorem add_add (a : Addr) (i j : Nat) : (a.add i).add j = a.add (i + j) := by
  unfold Addr.add
  by_cases h1 : i = 0
  · subst h1; simp
  · by_cases h2 : j = 0
    · subst h2; simp [h1]
    · simp [h1, h2, Nat.add_assoc]
theorem cells_at {W : World} {base : Nat} {a : Addr} {n : Nat} {cs : List Value} (h : W.cells? base a n = some cs) : cs.length = n ∧ ∀ (i : Nat) u, cs[i]? = some u → W.cell? (a.add i) = some u := by
  obtain ⟨_, hn, hc⟩ := World.cells?_some h
  refine ⟨hn, fun i u hu => ?_⟩
  have hi : i < n := by
    rcases Nat.lt_or_ge i n with hi | hi
    · exact hi
    · rw [List.getElem?_eq_none (by omega)] at hu; cases hu
  rw [hc i hi, hu]
theorem Opens.slice {P : Program} {α : Type} {d : Kd α} {t e : TypeId} {G : α → Prop} (h : Opens P d e G) (hu : P.underlying t = some (.slice e)) (hc : P.cellsOf t = 1) {B : Nat} (hB : P.bytesOf e = B) :
    Opens P (Kd.slice e d) t (fun l => l.length * B ≤ 140737488351232 ∧ ∀ y ∈ l, G y) := by
  refine ⟨hc, fun {H enc W fuel cs x} hx hl => ?_⟩
  rcases Deep.open_slice hu hx with ⟨rfl, rfl⟩ | ⟨a, len, cap, m, n, D, Pl, rfl, _, hle, hm, hmm, rfl, hel⟩
  · exact ⟨[], ⟨none, 0, rfl, Nat.le_refl _, rfl, by simp, fun h => by simp at h⟩, by simp, fun y hy => by cases hy⟩
  · simp only [if_true] at hmm
    subst hmm
    have hw : (len + (m - len)) * B ≤ 140737488351232 := by
      have := hl ((len + (m - len)) * B) (by
        unfold DataW.weights
        simp only [hu, hB]
        simp)
      exact this
    have hget : ∀ i, i < len → ∃ y, (∃ c, c.length = d.sz ∧ d.K W y c ∧ ∀ j u, c[j]? = some u → W.cell? (a.add (i * d.sz + j)) = some u) ∧ G y := by
      intro i hi
      obtain ⟨cs', h1, h2⟩ := hel i (by omega)
      obtain ⟨y, hy, hg⟩ := h.open_ h2 (fun x hx => hl x (by
        unfold DataW.weights
        simp only [hu]
        refine List.mem_cons_of_mem _ (List.mem_append_left _ (weightsAll_mem P e _ (D i) ?_ x hx))
        exact List.mem_map.2 ⟨i, List.mem_range.2 hi, rfl⟩))
      obtain ⟨hn, hcell⟩ := cells_at h1
      refine ⟨y, ⟨cs', by rw [hn, h.cells], hy, fun j u hj => ?_⟩, hg⟩
      have := hcell j u hj
      rw [add_add, h.cells] at this
      exact this
    obtain ⟨l, hll, hat⟩ := list_of len hget
    refine ⟨l, ⟨some a, m, by rw [hll], by omega, rfl, by rw [hll]; unfold maxLen at hm; omega, fun _ => ⟨a, rfl, fun j p hj => (hat j p hj).1⟩⟩, ?_, fun y hy => ?_⟩
    · rw [hll]
      exact Nat.le_trans (Nat.mul_le_mul_right _ (by omega)) hw
    · obtain ⟨i, hi, rfl⟩ := List.mem_iff_getElem.1 hy
      exact (hat i _ (List.getElem?_eq_getElem hi)).2
theorem light_of {H : Type} {P : Program} {ts : List TypeId} {ds : List (DataW H)} (h : (DataW.weightsEach P ts ds).all (· ≤ reachBytes) = true) {j : Nat} {t : TypeId} {d : DataW H} (ht : ts[j]? = some t) (hd : ds[j]? = some d) : Light P t d := fun x hx => by
  have := List.all_eq_true.1 h x (DataW.weights_mem_each ht hd x hx)
  simpa using this
end Go.Proofs.YtofegjgiocljlaaDoorH
end
section
namespace Go.Proofs.YtofegjgiocljlaaDoorH
open Go
variable {H : Type} {enc : TypeId × Value → H}
theorem returns_and_shaped {a : Assume} {C : Checked} {os : Os} {f : FuncId} {fn : Func} {s : ChangeSpec} {conds : List PathCond} {apart fresh handsOn again : Bool} {X : World → Array Value → Prop}
    (hX : ∀ (w w' : World) (args : Array Value), w.heap = w'.heap → X w args → X w' args)
    (own : ownKnob C.prog.godebug = none) (started : os.Started) (noInit : C.prog.inits.idxOf? f = none) (hfn : C.prog.funcs[f]? = some fn)
    (witness : ∃ (w : World) (tape : Tape) (i : Input), w.os = os ∧ (w.forCall tape i).Shaped C.prog ∧ i.vars = [] ∧ Input.okWide C.prog (w.forCall tape i) .any w.heap.size f i ∧
      ((s.pre enc C.prog fn conds apart (w.forCall tape i).memory i.args ∧ X (w.forCall tape i).memory i.args) ∧ sizedMet enc C.prog fn (OpenSpec.ofChange s) apart (w.forCall tape i).memory i.args) ∧ a.holds C.prog (lone (Frame.enter C.prog f i.args .normal) [] (w.forCall tape i)))
    (contract : ∀ (W : World) (base : Nat) (args : Array Value) (ds gs : List (DataW H)) (before : List MemPlace),
      (∀ (j : Nat) t v, fn.params[j]? = some t → args[j]? = some v → Value.okWide C.prog W .any base t v) →
      DataW.Whole enc C.prog fn.params.toList s.vars apart W args.toList ds gs before →
      conds.all (PathCond.test C.prog ⟨fn.params.toList, ds, s.plain.varTypes C.prog, gs⟩) = true →
      (DataW.weightsEach C.prog (fn.params.toList ++ s.plain.varTypes C.prog) (ds ++ gs)).all (· ≤ reachBytes) = true → X W args →
      W.ShapedOpen C.prog →
      a.holds C.prog (lone (Frame.enter C.prog f args .normal) [] W) →
      Calls C.prog f args W fun e W' => ∃ v, e = .returned v ∧ s.post enc C.prog fn apart fresh handsOn again W args v W') :
    ReturnsInHanded a C os f .any (fun w args => (s.pre enc C.prog fn conds apart w args ∧ X w args) ∧ sizedMet enc C.prog fn (OpenSpec.ofChange s) apart w args) (s.post enc C.prog fn apart fresh handsOn again) := by
  refine returnsInHanded_of_calls own started noInit witness ?_
  intro w tape i _ hsh _ hok hpre hholds
  obtain ⟨_, _, _, fn', hfn', _, _, _, _, hval⟩ := hok
  have e : fn' = fn := Option.some.inj (hfn'.symm.trans hfn)
  subst e
  obtain ⟨⟨⟨ds, gs, before, hw, hc⟩, hx⟩, hz⟩ := hpre
  have hw' := DataW.Whole.of_heap (w' := w.forCall tape i) (by rfl) hw
  refine (contract (w.forCall tape i) w.heap.size i.args ds gs before hval hw' hc (hz.weights hw) (hX _ _ _ (by rfl) hx) hsh hholds).mono fun e W' ⟨v, he, hp⟩ => ?_
  subst he
  exact ChangeSpec.post_blind hp
end Go.Proofs.YtofegjgiocljlaaDoorH
end
