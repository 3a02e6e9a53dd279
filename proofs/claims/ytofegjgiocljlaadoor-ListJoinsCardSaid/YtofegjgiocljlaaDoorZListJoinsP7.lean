import Derived.Test.YtofegjgiocljlaaDoorZListJoinsP1
import Derived.Test.YtofegjgiocljlaaDoorZListJoinsP4
import Derived.Test.YtofegjgiocljlaaDoorZListJoinsP5
import Derived.Test.YtofegjgiocljlaaDoorZListJoinsP6
import Derived.Test.YtofegjgiocljlaaDoorZListJoinsP2
import Derived.Test.YtofegjgiocljlaaDoorZListJoinsP3
import Derived.Test.YtofegjgiocljlaaDoorRows
import Derived.LaidSub
import Derived.MakeChecks
import Derived.ProofKit
import Derived.OpenShut
import Derived.LaidMore
import Derived.Deep.Slices
import Derived.SizedLaws
import Derived.HandedShaped
import Derived.Handed
section
namespace Go.Proofs.YtofegjgiocljlaaDoor.Pr
open Go.RowKit Go.Proofs.YtofegjgiocljlaaDoorH Go.Proofs.YtofegjgiocljlaaDoorW.PrintWords Go.Proofs.YtofegjgiocljlaaDoorW.PrintLast Go.Proofs.YtofegjgiocljlaaDoorW.PrintMore
attribute [local go_sem] max2_int min2_int max_two min_two max_three min_three max_four min_four   -- for this text's walks alone
set_option linter.unusedVariables false
set_option linter.unusedSimpArgs false
def catchpitref02_token.j0 : Nat → Int → Bool → Option (Bool)
  | 0, _, _ => none
  | k + 1, x0, x24 => if x24 = true then (some true) else (if x0 = 33 then (some true) else (if x0 = 35 then (some true) else (if x0 = 36 then (some true) else (if x0 = 37 then (some true) else (if x0 = 38 then (some true) else (if x0 = 39 then (some true) else (if x0 = 42 then (some true) else (if x0 = 43 then (some true) else (if x0 = 45 then (some true) else (if x0 = 46 then (some true) else (if x0 = 94 then (some true) else (if x0 = 95 then (some true) else (if x0 = 96 then (some true) else (if x0 = 124 then (some true) else (if x0 = 126 then (some true) else (some false))))))))))))))))
def catchpitref02_token.f (k : Nat) (a0 : Int) : Option (Bool) := if a0 ≥ 97 then (if a0 ≤ 122 then (catchpitref02_token.j0 k a0 true) else (if a0 ≥ 65 then (if a0 ≤ 90 then (catchpitref02_token.j0 k a0 true) else (if a0 ≥ 48 then (catchpitref02_token.j0 k a0 (decide (a0 ≤ 57))) else (catchpitref02_token.j0 k a0 false))) else (if a0 ≥ 48 then (catchpitref02_token.j0 k a0 (decide (a0 ≤ 57))) else (catchpitref02_token.j0 k a0 false)))) else (if a0 ≥ 65 then (if a0 ≤ 90 then (catchpitref02_token.j0 k a0 true) else (if a0 ≥ 48 then (catchpitref02_token.j0 k a0 (decide (a0 ≤ 57))) else (catchpitref02_token.j0 k a0 false))) else (if a0 ≥ 48 then (catchpitref02_token.j0 k a0 (decide (a0 ≤ 57))) else (catchpitref02_token.j0 k a0 false)))
theorem catchpitref02_token.mono_l : ∀ k, (∀ y0 y1, LeO (catchpitref02_token.j0 k y0 y1) (catchpitref02_token.j0 (k + 1) y0 y1))
  | 0 => fun _ _ r h => by simp [catchpitref02_token.j0] at h
  | k + 1 => by
    have ih0 := catchpitref02_token.mono_l k
    · intro y0 y1
      unfold catchpitref02_token.j0
      repeat' first
      | (with_reducible exact ih0 _ _)
      | (with_reducible exact LeO.refl _)
      | (with_reducible exact LeO.none _)
      | (with_reducible refine LeO.ite ?_ ?_)
      | (with_reducible refine LeO.bind ?_ (fun _ => ?_))
      | exact ih0 _ _
      | exact LeO.none _
      | refine LeO.ite ?_ ?_
      | refine LeO.bind ?_ (fun _ => ?_)
theorem catchpitref02_token.mono : ∀ a0 k, LeO (catchpitref02_token.f k a0) (catchpitref02_token.f (k + 1) a0) := by
  intro a0 k
  have ih0 := catchpitref02_token.mono_l k
  unfold catchpitref02_token.f
  repeat' first
      | (with_reducible exact ih0 _ _)
      | (with_reducible exact LeO.refl _)
      | (with_reducible exact LeO.none _)
      | (with_reducible refine LeO.ite ?_ ?_)
      | (with_reducible refine LeO.bind ?_ (fun _ => ?_))
      | exact ih0 _ _
      | exact LeO.none _
      | refine LeO.ite ?_ ?_
      | refine LeO.bind ?_ (fun _ => ?_)
def catchpitref02_Token.l0 : Nat → ByteArray → Int → Option (Bool)
  | 0, _, _ => none
  | k + 1, x0, x3 => if x3 < (x0.size : Int) then (if 0 ≤ x3 then ((catchpitref02_token.f k (bt x0 x3)).bind fun t153 => (if t153 = true then (catchpitref02_Token.l0 k x0 (wrap64 (x3 + 1))) else (some false))) else (none)) else (some (decide ((x0.size : Int) > 0)))
def catchpitref02_Token.f (k : Nat) (a0 : ByteArray) : Option (Bool) := catchpitref02_Token.l0 k a0 0
theorem catchpitref02_Token.mono_l : ∀ k, (∀ y0 y1, LeO (catchpitref02_Token.l0 k y0 y1) (catchpitref02_Token.l0 (k + 1) y0 y1))
  | 0 => fun _ _ r h => by simp [catchpitref02_Token.l0] at h
  | k + 1 => by
    have ih0 := catchpitref02_Token.mono_l k
    · intro y0 y1
      unfold catchpitref02_Token.l0
      repeat' first
      | (with_reducible exact ih0 _ _)
      | (with_reducible exact catchpitref02_token.mono _ _)
      | (with_reducible exact LeO.refl _)
      | (with_reducible exact LeO.none _)
      | (with_reducible refine LeO.ite ?_ ?_)
      | (with_reducible refine LeO.bind ?_ (fun _ => ?_))
      | exact ih0 _ _
      | exact catchpitref02_token.mono _ _
      | exact LeO.none _
      | refine LeO.ite ?_ ?_
      | refine LeO.bind ?_ (fun _ => ?_)
theorem catchpitref02_Token.mono : ∀ a0 k, LeO (catchpitref02_Token.f k a0) (catchpitref02_Token.f (k + 1) a0) := by
  intro a0 k
  have ih0 := catchpitref02_Token.mono_l k
  unfold catchpitref02_Token.f
  repeat' first
      | (with_reducible exact ih0 _ _)
      | (with_reducible exact catchpitref02_token.mono _ _)
      | (with_reducible exact LeO.refl _)
      | (with_reducible exact LeO.none _)
      | (with_reducible refine LeO.ite ?_ ?_)
      | (with_reducible refine LeO.bind ?_ (fun _ => ?_))
      | exact ih0 _ _
      | exact catchpitref02_token.mono _ _
      | exact LeO.none _
      | refine LeO.ite ?_ ?_
      | refine LeO.bind ?_ (fun _ => ?_)
def catchpitref02_Small.l0 : Nat → ByteArray → List Int → Int → Option (ByteArray)
  | 0, _, _, _ => none
  | k + 1, x0, x3, x4 => if x4 < (x0.size : Int) then (if 0 ≤ x4 then (if (bt x0 x4) ≥ 65 then (if (bt x0 x4) ≤ 90 then (if x3.length < 140737488355328 then (catchpitref02_Small.l0 k x0 (x3 ++ [((bt x0 x4) + 32) % 256]) (wrap64 (x4 + 1))) else (none)) else (if x3.length < 140737488355328 then (catchpitref02_Small.l0 k x0 (x3 ++ [bt x0 x4]) (wrap64 (x4 + 1))) else (none))) else (if x3.length < 140737488355328 then (catchpitref02_Small.l0 k x0 (x3 ++ [bt x0 x4]) (wrap64 (x4 + 1))) else (none))) else (none)) else (some (strOfNums x3))
def catchpitref02_Small.f (k : Nat) (a0 : ByteArray) : Option (ByteArray) := catchpitref02_Small.l0 k a0 ([] : List Int) 0
theorem catchpitref02_Small.mono_l : ∀ k, (∀ y0 y1 y2, LeO (catchpitref02_Small.l0 k y0 y1 y2) (catchpitref02_Small.l0 (k + 1) y0 y1 y2))
  | 0 => fun _ _ _ r h => by simp [catchpitref02_Small.l0] at h
  | k + 1 => by
    have ih0 := catchpitref02_Small.mono_l k
    · intro y0 y1 y2
      unfold catchpitref02_Small.l0
      repeat' first
      | (with_reducible exact ih0 _ _ _)
      | (with_reducible exact LeO.refl _)
      | (with_reducible exact LeO.none _)
      | (with_reducible refine LeO.ite ?_ ?_)
      | (with_reducible refine LeO.bind ?_ (fun _ => ?_))
      | exact ih0 _ _ _
      | exact LeO.none _
      | refine LeO.ite ?_ ?_
      | refine LeO.bind ?_ (fun _ => ?_)
theorem catchpitref02_Small.mono : ∀ a0 k, LeO (catchpitref02_Small.f k a0) (catchpitref02_Small.f (k + 1) a0) := by
  intro a0 k
  have ih0 := catchpitref02_Small.mono_l k
  unfold catchpitref02_Small.f
  repeat' first
      | (with_reducible exact ih0 _ _ _)
      | (with_reducible exact LeO.refl _)
      | (with_reducible exact LeO.none _)
      | (with_reducible refine LeO.ite ?_ ?_)
      | (with_reducible refine LeO.bind ?_ (fun _ => ?_))
      | exact ih0 _ _ _
      | exact LeO.none _
      | refine LeO.ite ?_ ?_
      | refine LeO.bind ?_ (fun _ => ?_)
end Go.Proofs.YtofegjgiocljlaaDoor.Pr
end
section
namespace Go.Proofs.YtofegjgiocljlaaDoorH
open Go.RowKit Go.Proofs.YtofegjgiocljlaaDoorW.PrintWords Go.Proofs.YtofegjgiocljlaaDoorW.PrintLast Go.Proofs.YtofegjgiocljlaaDoorW.PrintMore Go.Proofs.YtofegjgiocljlaaDoor.Pr
theorem ref02_blank (c : Int) : catchpitref02_blank.f c = some (blankI c) := by
  unfold catchpitref02_blank.f blankI
  by_cases h : c = 32
  · rw [if_pos h]; subst h; rfl
  · rw [if_neg h, beq_eq_false_iff_ne.2 h, Bool.false_or]
theorem mk_data (s : ByteArray) : (⟨s.data.toList.toArray⟩ : ByteArray) = s := bytes_ext (by simp)
theorem ref02_Trim_l1 (n : Nat) : ∀ (s : ByteArray) (k : Nat), s.size = n → n ≤ 140737488355328 → n < k →
    catchpitref02_Trim.l1 k s = some ⟨(rtrim blankU s.data.toList).toArray⟩ := by
  induction n with
  | zero =>
    intro s k hs hn hk
    obtain ⟨k, rfl⟩ : ∃ m, k = m + 1 := ⟨k - 1, by omega⟩
    rw [catchpitref02_Trim.l1, if_neg (by omega)]
    have hl : s.data.toList = [] := by rw [size_eq_length] at hs; exact List.length_eq_zero_iff.1 hs
    congr 1
    apply bytes_ext
    rw [hl]; rfl
  | succ n ih =>
    intro s k hs hn hk
    obtain ⟨k, rfl⟩ : ∃ m, k = m + 1 := ⟨k - 1, by omega⟩
    obtain ⟨t, c, hl, hb⟩ := last_of s (by omega)
    rw [catchpitref02_Trim.l1, if_pos (by omega), wrap_down (by omega) (by omega), if_pos (by omega), if_pos (by omega), ref02_blank, Option.bind_some, hb, blankU_int]
    rw [hl, rtrim_snoc]
    cases hp : blankU c with
    | true =>
      rw [if_pos rfl, if_pos (by omega), if_pos rfl, show ((s.size : Int) - 1).toNat = s.size - 1 by omega]
      have he : (s.extract 0 (s.size - 1)).data.toList = t := by
        rw [extract_to, hl, size_eq_length, hl]
        simp
      rw [ih _ k (by rw [size_eq_length, he]; have := size_eq_length s; rw [hl] at this; simp at this; omega) (by omega) (by omega), he]
    | false =>
      rw [if_neg (by simp), if_neg (by simp), ← hl, mk_data]
theorem ref02_Trim_l0 (n : Nat) : ∀ (s : ByteArray) (k : Nat), s.size = n → n ≤ 140737488355328 → n + n + 2 < k →
    catchpitref02_Trim.l0 k s = some ⟨(rtrim blankU (s.data.toList.dropWhile blankU)).toArray⟩ := by
  induction n with
  | zero =>
    intro s k hs hn hk
    obtain ⟨k, rfl⟩ : ∃ m, k = m + 2 := ⟨k - 2, by omega⟩
    rw [catchpitref02_Trim.l0, if_neg (by omega), catchpitref02_Trim.j1, ref02_Trim_l1 0 s k hs (by omega) (by omega)]
    have hl : s.data.toList = [] := by rw [size_eq_length] at hs; exact List.length_eq_zero_iff.1 hs
    rw [hl]; rfl
  | succ n ih =>
    intro s k hs hn hk
    obtain ⟨k, rfl⟩ : ∃ m, k = m + 2 := ⟨k - 2, by omega⟩
    obtain ⟨c, t, hl, hb⟩ := first_of s (by omega)
    rw [catchpitref02_Trim.l0, if_pos (by omega), if_pos (by omega), ref02_blank, Option.bind_some, hb, blankU_int, hl]
    cases hp : blankU c with
    | true =>
      rw [if_pos rfl, if_pos (by omega), List.dropWhile_cons_of_pos hp]
      have he : (s.extract 1 s.size).data.toList = t := by rw [extract_from, hl]; rfl
      rw [ih _ (k + 1) (by rw [size_eq_length, he]; have := size_eq_length s; rw [hl] at this; simp at this; omega) (by omega) (by omega), he]
    | false =>
      rw [if_neg (by simp), catchpitref02_Trim.j1, ref02_Trim_l1 (n + 1) s k hs (by omega) (by omega), List.dropWhile_cons_of_neg (by simp [hp]), hl]
theorem ref02_Trim (s : ByteArray) (hs : s.size ≤ 140737488355328) : Ev (fun k => catchpitref02_Trim.f k s) (trimS s) := by
  refine ⟨s.size + s.size + 3, fun k hk => ?_⟩
  show catchpitref02_Trim.l0 k s = _
  rw [ref02_Trim_l0 s.size s k rfl hs (by omega)]
  unfold trimS
  rw [trimL_eq']
end Go.Proofs.YtofegjgiocljlaaDoorH
end
section
namespace Go.Proofs.YtofegjgiocljlaaDoorH
open Go.RowKit Go.Proofs.YtofegjgiocljlaaDoorW.PrintWords Go.Proofs.YtofegjgiocljlaaDoorW.PrintLast Go.Proofs.YtofegjgiocljlaaDoorW.PrintMore Go.Proofs.YtofegjgiocljlaaDoor.Pr
theorem ev_succ {α : Type} {g : Nat → Option α} {r : α} (h : Ev (fun k => g (k + 1)) r) : Ev g r := by
  obtain ⟨K, hK⟩ := h
  refine ⟨K + 1, fun k hk => ?_⟩
  obtain ⟨k, rfl⟩ : ∃ m, k = m + 1 := ⟨k - 1, by omega⟩
  exact hK k (by omega)
theorem ev_bind {α β : Type} {g : Nat → Option α} {h : Nat → α → Option β} {x : α} {r : β} (h1 : Ev g x) (h2 : Ev (fun k => h k x) r) : Ev (fun k => (g k).bind (h k)) r := by
  obtain ⟨K1, h1⟩ := h1
  obtain ⟨K2, h2⟩ := h2
  exact ⟨K1 + K2, fun k hk => by show (g k).bind (h k) = _; rw [h1 k (by omega), Option.bind_some]; exact h2 k (by omega)⟩
theorem ev_as {α : Type} {g g' : Nat → Option α} {r : α} (h : Ev g r) (e : ∀ k, g' k = g k) : Ev g' r := by
  obtain ⟨K, hK⟩ := h
  exact ⟨K, fun k hk => (e k).trans (hK k hk)⟩
def mkB (l : List UInt8) : ByteArray := ⟨l.toArray⟩
def partsC (c : UInt8) (s : ByteArray) : List ByteArray := (splitL c s.data.toList).map mkB
theorem partsB_eq (s : ByteArray) : partsB s = partsC 44 s := rfl
theorem splitL_no (c : UInt8) (p : List UInt8) (h : ∀ x ∈ p, x ≠ c) : splitL c p = [p] :=
  splitL_none c p (List.findIdx_eq_length.2 fun x hx => by simpa using h x hx)
theorem extract_mk (s : ByteArray) (a i : Nat) (p : List UInt8) (h1 : a ≤ i) (h2 : i ≤ s.size) (hp : s.data.toList.drop a = p ++ s.data.toList.drop i) : s.extract a i = mkB p := by
  apply bytes_ext
  rw [extract_list, hp]
  have hl : p.length = i - a := by
    have := congrArg List.length hp
    rw [List.length_append, List.length_drop, List.length_drop, data_length] at this
    omega
  show _ = p
  rw [← hl, List.take_left]
theorem ref07_cut_l0 (s : ByteArray) (c : UInt8) (hs : s.size ≤ 1000000000) : ∀ (d i a : Nat) (p : List UInt8) (acc : List ByteArray), a ≤ i → i ≤ s.size → s.size - i = d → acc.length ≤ i →
    s.data.toList.drop a = p ++ s.data.toList.drop i → (∀ x ∈ p, x ≠ c) →
    Ev (fun k => catchpitref07_cut.l0 k s ((c.toNat : Nat) : Int) acc (a : Int) (i : Int)) (acc ++ (splitL c (s.data.toList.drop a)).map mkB) := by
  intro d
  induction d with
  | zero =>
    intro i a p acc h1 h2 h3 h4 hp hc
    obtain rfl : i = s.size := by omega
    have he := extract_mk s a s.size p h1 (Nat.le_refl _) hp
    have hz : s.data.toList.drop s.size = [] := List.drop_eq_nil_of_le (by rw [data_length]; exact Nat.le_refl _)
    rw [hz, List.append_nil] at hp
    refine ev_succ (ev_succ ⟨0, fun k _ => ?_⟩)
    show catchpitref07_cut.l0 (k + 1 + 1) s _ acc _ _ = _
    rw [catchpitref07_cut.l0, if_pos (by omega), if_pos rfl, if_pos (by omega), if_pos (by omega), if_pos (by omega), show wrap64 ((s.size : Int) + 1) = ((s.size + 1 : Nat) : Int) by unfold wrap64; omega, catchpitref07_cut.l0, if_neg (by omega), Int.toNat_natCast, Int.toNat_natCast, he, hp, splitL_no c p hc]
    rfl
  | succ d ih =>
    intro i a p acc h1 h2 h3 h4 hp hc
    obtain ⟨b, hb, hbt⟩ := drop_byte s i (by omega)
    have hw : wrap64 ((i : Int) + 1) = ((i + 1 : Nat) : Int) := by unfold wrap64; omega
    by_cases hbc : b = c
    · subst hbc
      have he := extract_mk s a i p h1 (by omega) hp
      have key := ih (i + 1) (i + 1) [] (acc ++ [mkB p]) (Nat.le_refl _) (by omega) (by omega) (by rw [List.length_append, List.length_singleton]; omega) (by simp) (by simp)
      rw [show acc ++ (splitL b (s.data.toList.drop a)).map mkB = acc ++ [mkB p] ++ (splitL b (s.data.toList.drop (i + 1))).map mkB by
        rw [hp, hb, splitL_append, splitL_no b p hc]; simp]
      refine ev_succ (ev_as key fun k => ?_)
      rw [catchpitref07_cut.l0, if_pos (by omega), if_neg (by omega), if_pos (by omega), if_pos (by omega), if_pos hbt, if_pos (by omega), if_pos (by omega), if_pos (by omega), hw, Int.toNat_natCast, Int.toNat_natCast, he]
    · have key := ih (i + 1) a (p ++ [b]) acc (by omega) (by omega) (by omega) (by omega) (by rw [hp, hb]; simp) (fun x hx => by
        rcases List.mem_append.1 hx with h | h
        · exact hc x h
        · rw [List.mem_singleton.1 h]; exact hbc)
      refine ev_succ (ev_as key fun k => ?_)
      rw [catchpitref07_cut.l0, if_pos (by omega), if_neg (by omega), if_pos (by omega), if_pos (by omega), if_neg (fun h => hbc (by rw [hbt] at h; exact UInt8.toNat_inj.1 (by omega))), hw]
theorem ref07_cut (s : ByteArray) (c : UInt8) (hs : s.size ≤ 1000000000) : Ev (fun k => catchpitref07_cut.f k s ((c.toNat : Nat) : Int)) (partsC c s) := by
  have := ref07_cut_l0 s c hs s.size 0 0 [] [] (Nat.le_refl _) (Nat.zero_le _) rfl (Nat.zero_le _) rfl (by simp)
  exact this
theorem snds_map (i : Nat) (l : List ByteArray) : (l.map fun x => (i, x)).map (fun y => y.2) = l := by
  rw [List.map_map]
  exact List.map_id _
theorem itemsF_snds : ∀ (l : List ByteArray) (i : Nat), (itemsF i l).map (fun y => y.2) = l.flatMap itemsP
  | [], _ => rfl
  | v :: l, i => by rw [itemsF, List.map_append, snds_map, itemsF_snds l (i + 1), List.flatMap_cons]
theorem itemsL_flat (l : List ByteArray) : itemsL l = l.flatMap itemsP := itemsF_snds l 0
theorem itemsL_one (v : ByteArray) : itemsL [v] = itemsP v := by rw [itemsL_flat, List.flatMap_cons, List.flatMap_nil, List.append_nil]
theorem rdOf_nat (l : List ByteArray) (i : Nat) : rdOf ByteArray.empty l (i : Int) = l.getD i ByteArray.empty := by
  unfold rdOf
  rw [Int.toNat_natCast]
theorem partsC_size (c : UInt8) (s : ByteArray) : ∀ p ∈ partsC c s, p.size ≤ s.size := by
  intro p hp
  obtain ⟨l, hl, rfl⟩ := List.mem_map.1 hp
  rw [size_eq_length s]
  exact splitL_size _ _ _ hl
theorem partsC_length (c : UInt8) (s : ByteArray) : (partsC c s).length ≤ s.size + 1 := by
  unfold partsC
  rw [List.length_map, size_eq_length]
  exact splitL_count _ _
theorem sumS_drop (l : List ByteArray) (i : Nat) (h : i < l.length) : sumS (l.drop i) = (l.getD i ByteArray.empty).size + 1 + sumS (l.drop (i + 1)) := by
  rw [drop_cons l ByteArray.empty i h, sumS_cons]
theorem ref07_Items_l1 (xs : List ByteArray) (i : Nat) (ps : List ByteArray) (hps : ∀ p ∈ ps, p.size ≤ 1000000000) (r : List ByteArray) : ∀ (d j : Nat) (acc : List ByteArray), j ≤ ps.length → ps.length - j = d → acc.length + d ≤ 1000000000 → ps.length ≤ 1000000000 →
    Ev (fun k => catchpitref07_Items.l0 k xs (acc ++ (ps.drop j).flatMap partItem) (wrap64 ((i : Int) + 1))) r →
    Ev (fun k => catchpitref07_Items.l1 k xs acc (i : Int) ps (j : Int)) r := by
  intro d
  induction d with
  | zero =>
    intro j acc h1 h2 h3 h4 h
    rw [List.drop_eq_nil_of_le (by omega), List.flatMap_nil, List.append_nil] at h
    refine ev_succ (ev_as h fun k => ?_)
    rw [catchpitref07_Items.l1, if_neg (by omega)]
  | succ d ih =>
    intro j acc h1 h2 h3 h4 h
    have hj : j < ps.length := by omega
    have hw : wrap64 ((j : Int) + 1) = ((j + 1 : Nat) : Int) := by unfold wrap64; omega
    rw [drop_cons ps ByteArray.empty j hj, List.flatMap_cons, ← List.append_assoc] at h
    have hsz := hps _ (mem_getD ps ByteArray.empty j hj)
    have ht := ref02_Trim (ps.getD j ByteArray.empty) (by omega)
    unfold partItem at h
    by_cases hz : (trimS (ps.getD j ByteArray.empty)).size = 0
    · rw [if_pos hz, List.append_nil] at h
      have key := ih (j + 1) acc (by omega) (by omega) (by omega) h4 h
      refine ev_succ (ev_as (ev_bind (h := fun k t144 => (if (t144.size : Int) > 0 then (if acc.length < 8796093022208 then (catchpitref07_Items.l1 k xs (acc ++ [t144]) i ps (wrap64 ((j : Int) + 1))) else (none)) else (catchpitref07_Items.l1 k xs acc i ps (wrap64 ((j : Int) + 1))))) ht (ev_as key fun k => ?_)) fun k => ?_)
      · rw [if_neg (by omega), hw]
      · rw [catchpitref07_Items.l1, if_pos (by omega), if_pos (by omega), rdOf_nat]
    · rw [if_neg hz] at h
      have key := ih (j + 1) (acc ++ [trimS (ps.getD j ByteArray.empty)]) (by omega) (by omega) (by rw [List.length_append, List.length_singleton]; omega) h4 h
      refine ev_succ (ev_as (ev_bind (h := fun k t144 => (if (t144.size : Int) > 0 then (if acc.length < 8796093022208 then (catchpitref07_Items.l1 k xs (acc ++ [t144]) i ps (wrap64 ((j : Int) + 1))) else (none)) else (catchpitref07_Items.l1 k xs acc i ps (wrap64 ((j : Int) + 1))))) ht (ev_as key fun k => ?_)) fun k => ?_)
      · rw [if_pos (by omega), if_pos (by omega), hw]
      · rw [catchpitref07_Items.l1, if_pos (by omega), if_pos (by omega), rdOf_nat]
theorem ref07_Items_l0 (xs : List ByteArray) (hS : sumS xs ≤ 100000000) : ∀ (d i : Nat) (acc : List ByteArray), i ≤ xs.length → xs.length - i = d → acc.length + sumS (xs.drop i) ≤ 100000000 →
    Ev (fun k => catchpitref07_Items.l0 k xs acc (i : Int)) (acc ++ (xs.drop i).flatMap itemsP) := by
  have hlen := sumS_length xs
  intro d
  induction d with
  | zero =>
    intro i acc h1 h2 h3
    rw [List.drop_eq_nil_of_le (by omega), List.flatMap_nil, List.append_nil]
    refine ev_succ ⟨0, fun k _ => ?_⟩
    show catchpitref07_Items.l0 (k + 1) xs acc _ = _
    rw [catchpitref07_Items.l0, if_neg (by omega)]
  | succ d ih =>
    intro i acc h1 h2 h3
    have hi : i < xs.length := by omega
    have hw : wrap64 ((i : Int) + 1) = ((i + 1 : Nat) : Int) := by unfold wrap64; omega
    have hsz := sumS_at xs _ (mem_getD xs ByteArray.empty i hi)
    have hpl := itemsP_length (xs.getD i ByteArray.empty)
    have hpc := partsC_length 44 (xs.getD i ByteArray.empty)
    rw [sumS_drop xs i hi] at h3
    have key := ih (i + 1) (acc ++ itemsP (xs.getD i ByteArray.empty)) (by omega) (by omega) (by rw [List.length_append]; omega)
    rw [List.append_assoc, ← List.flatMap_cons, ← drop_cons xs ByteArray.empty i hi, itemsP_flat, ← hw] at key
    have h := ref07_Items_l1 xs i (partsB (xs.getD i ByteArray.empty)) (fun p hp => by have := partsC_size 44 _ p hp; omega) _ (partsB (xs.getD i ByteArray.empty)).length 0 acc (Nat.zero_le _) rfl (by rw [partsB_eq]; omega) (by rw [partsB_eq]; omega) key
    refine ev_succ (ev_as (ev_bind (h := fun k t140 => (catchpitref07_Items.l1 k xs acc i t140 0)) (ref07_cut (xs.getD i ByteArray.empty) 44 (by omega)) h) fun k => ?_)
    rw [catchpitref07_Items.l0, if_pos (by omega), if_pos (by omega), rdOf_nat]
    rfl
theorem ref07_Items (xs : List ByteArray) (hS : sumS xs ≤ 100000000) : Ev (fun k => catchpitref07_Items.f k xs) (itemsL xs) := by
  have := ref07_Items_l0 xs hS xs.length 0 [] (Nat.zero_le _) rfl (by simpa using hS)
  rw [itemsL_flat]
  exact this
end Go.Proofs.YtofegjgiocljlaaDoorH
end
section
namespace Go.Proofs.YtofegjgiocljlaaDoor.Pr
open Go.RowKit Go.Proofs.YtofegjgiocljlaaDoorH Go.Proofs.YtofegjgiocljlaaDoorW.PrintWords Go.Proofs.YtofegjgiocljlaaDoorW.PrintLast Go.Proofs.YtofegjgiocljlaaDoorW.PrintMore
attribute [local go_sem] max2_int min2_int max_two min_two max_three min_three max_four min_four   -- for this text's walks alone
set_option linter.unusedVariables false
set_option linter.unusedSimpArgs false
mutual
def catchpitlaw07_ListAgain.l0 : Nat → Int → Int → ByteArray → Int → Option (Bool)
  | 0, _, _, _, _ => none
  | k + 1, x0, x1, x5, x6 => if x6 > 0 then ((some (([(IntKind.u64.wrap (48 + (Int.tmod x6 10))) % 256] : List Int) : List Int)).bind fun y236 => (if (strOfNums y236).size + x5.size ≤ 9223372036854775807 then (catchpitlaw07_ListAgain.l0 k x0 x1 ((strOfNums y236) ++ x5) (IntKind.u64.wrap (Int.tdiv x6 10))) else (none))) else (if x5.toList = ([] : List UInt8) then ((some (([(IntKind.u64.wrap (48 + (Int.tmod x6 10))) % 256] : List Int) : List Int)).bind fun y239 => (if (strOfNums y239).size + x5.size ≤ 9223372036854775807 then (catchpitlaw07_ListAgain.l0 k x0 x1 ((strOfNums y239) ++ x5) (IntKind.u64.wrap (Int.tdiv x6 10))) else (none))) else (catchpitlaw07_ListAgain.l1 k x0 x5 ([] : List ByteArray) x5 (Int.tmod (wrap64 (x1)) 4) 0))
def catchpitlaw07_ListAgain.l1 : Nat → Int → ByteArray → List ByteArray → ByteArray → Int → Int → Option (Bool)
  | 0, _, _, _, _, _, _ => none
  | k + 1, x0, x5, x7, x8, x33, x34 => if x34 < x33 then (if x7.length < 8796093022208 then (if 2 + x5.size ≤ 9223372036854775807 then (if x8.size + ((⟨#[44, 32]⟩ : ByteArray) ++ x5).size ≤ 9223372036854775807 then (catchpitlaw07_ListAgain.l1 k x0 x5 (x7 ++ [x5]) (x8 ++ ((⟨#[44, 32]⟩ : ByteArray) ++ x5)) x33 (wrap64 (x34 + 1))) else (none)) else (none)) else (none)) else (if x7.length < 8796093022208 then ((list_Length.f (x7 ++ [x8])).bind fun bt248 => (if x0 > 4611686018427387903 then (if bt248.2 = 3 then (some true) else (if x0 ≤ 4611686018427387903 then (if bt248.2 = 0 then (some (bt248.1 == x0)) else (some false)) else (some false))) else (if x0 ≤ 4611686018427387903 then (if bt248.2 = 0 then (some (bt248.1 == x0)) else (some false)) else (some false)))) else (none))
end
def catchpitlaw07_ListAgain.f (k : Nat) (a0 : Int) (a1 : Int) : Option (Bool) := (catchpitlaw07_wakes.f k).bind fun t235 => (if t235 = true then (catchpitlaw07_ListAgain.l0 k a0 a1 (⟨#[]⟩ : ByteArray) a0) else (some false))
theorem catchpitlaw07_ListAgain.mono_l : ∀ k, (∀ y0 y1 y2 y3, LeO (catchpitlaw07_ListAgain.l0 k y0 y1 y2 y3) (catchpitlaw07_ListAgain.l0 (k + 1) y0 y1 y2 y3)) ∧ (∀ y0 y1 y2 y3 y4 y5, LeO (catchpitlaw07_ListAgain.l1 k y0 y1 y2 y3 y4 y5) (catchpitlaw07_ListAgain.l1 (k + 1) y0 y1 y2 y3 y4 y5))
  | 0 => ⟨fun _ _ _ _ r h => by simp [catchpitlaw07_ListAgain.l0] at h, fun _ _ _ _ _ _ r h => by simp [catchpitlaw07_ListAgain.l1] at h⟩
  | k + 1 => by
    obtain ⟨ih0, ih1⟩ := catchpitlaw07_ListAgain.mono_l k
    refine ⟨?_, ?_⟩
    · intro y0 y1 y2 y3
      unfold catchpitlaw07_ListAgain.l0
      repeat' first
      | (with_reducible exact ih0 _ _ _ _)
      | (with_reducible exact ih1 _ _ _ _ _ _)
      | (with_reducible exact catchpitlaw07_wakes.mono _)
      | (with_reducible exact LeO.refl _)
      | (with_reducible exact LeO.none _)
      | (with_reducible refine LeO.ite ?_ ?_)
      | (with_reducible refine LeO.bind ?_ (fun _ => ?_))
      | exact ih0 _ _ _ _
      | exact ih1 _ _ _ _ _ _
      | exact catchpitlaw07_wakes.mono _
      | exact LeO.none _
      | refine LeO.ite ?_ ?_
      | refine LeO.bind ?_ (fun _ => ?_)
    · intro y0 y1 y2 y3 y4 y5
      unfold catchpitlaw07_ListAgain.l1
      repeat' first
      | (with_reducible exact ih0 _ _ _ _)
      | (with_reducible exact ih1 _ _ _ _ _ _)
      | (with_reducible exact catchpitlaw07_wakes.mono _)
      | (with_reducible exact LeO.refl _)
      | (with_reducible exact LeO.none _)
      | (with_reducible refine LeO.ite ?_ ?_)
      | (with_reducible refine LeO.bind ?_ (fun _ => ?_))
      | exact ih0 _ _ _ _
      | exact ih1 _ _ _ _ _ _
      | exact catchpitlaw07_wakes.mono _
      | exact LeO.none _
      | refine LeO.ite ?_ ?_
      | refine LeO.bind ?_ (fun _ => ?_)
theorem catchpitlaw07_ListAgain.mono : ∀ a0 a1 k, LeO (catchpitlaw07_ListAgain.f k a0 a1) (catchpitlaw07_ListAgain.f (k + 1) a0 a1) := by
  intro a0 a1 k
  obtain ⟨ih0, ih1⟩ := catchpitlaw07_ListAgain.mono_l k
  unfold catchpitlaw07_ListAgain.f
  repeat' first
      | (with_reducible exact ih0 _ _ _ _)
      | (with_reducible exact ih1 _ _ _ _ _ _)
      | (with_reducible exact catchpitlaw07_wakes.mono _)
      | (with_reducible exact LeO.refl _)
      | (with_reducible exact LeO.none _)
      | (with_reducible refine LeO.ite ?_ ?_)
      | (with_reducible refine LeO.bind ?_ (fun _ => ?_))
      | exact ih0 _ _ _ _
      | exact ih1 _ _ _ _ _ _
      | exact catchpitlaw07_wakes.mono _
      | exact LeO.none _
      | refine LeO.ite ?_ ?_
      | refine LeO.bind ?_ (fun _ => ?_)
def octet_Alike.f (a0 : ByteArray) (a1 : ByteArray) : Option (Bool) := (octet_Small.f a0).bind fun t250 => ((octet_Small.f a1).bind fun t251 => (some (t250.toList == t251.toList)))
def catchpitref07_Has.l0 : Nat → ByteArray → List ByteArray → Int → Option (Bool)
  | 0, _, _, _ => none
  | k + 1, x0, x5, x6 => if x6 < (x5.length : Int) then (if 0 ≤ x6 then ((catchpitref07_word.f k (rdOf ByteArray.empty x5 x6)).bind fun t256 => ((catchpitref02_Small.f k t256).bind fun t257 => ((catchpitref02_Small.f k x0).bind fun t258 => (if t257.toList = t258.toList then (some true) else (catchpitref07_Has.l0 k x0 x5 (wrap64 (x6 + 1))))))) else (none)) else (some false)
def catchpitref07_Has.f (k : Nat) (a0 : ByteArray) (l1 : List ByteArray) : Option (Bool) := (catchpitref07_Items.f k l1).bind fun t252 => (catchpitref07_Has.l0 k a0 t252 0)
theorem catchpitref07_Has.mono_l : ∀ k, (∀ y0 y1 y2, LeO (catchpitref07_Has.l0 k y0 y1 y2) (catchpitref07_Has.l0 (k + 1) y0 y1 y2))
  | 0 => fun _ _ _ r h => by simp [catchpitref07_Has.l0] at h
  | k + 1 => by
    have ih0 := catchpitref07_Has.mono_l k
    · intro y0 y1 y2
      unfold catchpitref07_Has.l0
      repeat' first
      | (with_reducible exact ih0 _ _ _)
      | (with_reducible exact catchpitref02_Small.mono _ _)
      | (with_reducible exact catchpitref07_Items.mono _ _)
      | (with_reducible exact catchpitref07_word.mono _ _)
      | (with_reducible exact LeO.refl _)
      | (with_reducible exact LeO.none _)
      | (with_reducible refine LeO.ite ?_ ?_)
      | (with_reducible refine LeO.bind ?_ (fun _ => ?_))
      | exact ih0 _ _ _
      | exact catchpitref02_Small.mono _ _
      | exact catchpitref07_Items.mono _ _
      | exact catchpitref07_word.mono _ _
      | exact LeO.none _
      | refine LeO.ite ?_ ?_
      | refine LeO.bind ?_ (fun _ => ?_)
theorem catchpitref07_Has.mono : ∀ a0 a1 k, LeO (catchpitref07_Has.f k a0 a1) (catchpitref07_Has.f (k + 1) a0 a1) := by
  intro a0 a1 k
  have ih0 := catchpitref07_Has.mono_l k
  unfold catchpitref07_Has.f
  repeat' first
      | (with_reducible exact ih0 _ _ _)
      | (with_reducible exact catchpitref02_Small.mono _ _)
      | (with_reducible exact catchpitref07_Items.mono _ _)
      | (with_reducible exact catchpitref07_word.mono _ _)
      | (with_reducible exact LeO.refl _)
      | (with_reducible exact LeO.none _)
      | (with_reducible refine LeO.ite ?_ ?_)
      | (with_reducible refine LeO.bind ?_ (fun _ => ?_))
      | exact ih0 _ _ _
      | exact catchpitref02_Small.mono _ _
      | exact catchpitref07_Items.mono _ _
      | exact catchpitref07_word.mono _ _
      | exact LeO.none _
      | refine LeO.ite ?_ ?_
      | refine LeO.bind ?_ (fun _ => ?_)
def catchpitlaw07_ListItems.j0 : Nat → List ByteArray → ByteArray → Bool → Option (Bool)
  | 0, _, _, _ => none
  | k + 1, x0, x1, x13 => if x13 = true then (some true) else ((list_Items.f x0).bind fun t261 => ((catchpitref07_Items.f k x0).bind fun t264 => ((catchpitref05_Texts.f k t261 t264).bind fun t267 => (if t267 = true then ((list_Has.f x1 x0).bind fun t268 => ((catchpitref07_Has.f k x1 x0).bind fun t269 => (some (t268 == t269)))) else (some false)))))
def catchpitlaw07_ListItems.f (k : Nat) (l0 : List ByteArray) (a1 : ByteArray) : Option (Bool) := (catchpitlaw07_wakes.f k).bind fun t259 => (if t259 = true then ((catchpitlaw07_long.f k l0).bind fun t260 => (if t260 = true then (catchpitlaw07_ListItems.j0 k l0 a1 true) else (catchpitlaw07_ListItems.j0 k l0 a1 (decide ((a1.size : Int) > 200))))) else (some false))
theorem catchpitlaw07_ListItems.mono_l : ∀ k, (∀ y0 y1 y2, LeO (catchpitlaw07_ListItems.j0 k y0 y1 y2) (catchpitlaw07_ListItems.j0 (k + 1) y0 y1 y2))
  | 0 => fun _ _ _ r h => by simp [catchpitlaw07_ListItems.j0] at h
  | k + 1 => by
    have ih0 := catchpitlaw07_ListItems.mono_l k
    · intro y0 y1 y2
      unfold catchpitlaw07_ListItems.j0
      repeat' first
      | (with_reducible exact ih0 _ _ _)
      | (with_reducible exact catchpitlaw07_long.mono _ _)
      | (with_reducible exact catchpitlaw07_wakes.mono _)
      | (with_reducible exact catchpitref05_Texts.mono _ _ _)
      | (with_reducible exact catchpitref07_Has.mono _ _ _)
      | (with_reducible exact catchpitref07_Items.mono _ _)
      | (with_reducible exact LeO.refl _)
      | (with_reducible exact LeO.none _)
      | (with_reducible refine LeO.ite ?_ ?_)
      | (with_reducible refine LeO.bind ?_ (fun _ => ?_))
      | exact ih0 _ _ _
      | exact catchpitlaw07_long.mono _ _
      | exact catchpitlaw07_wakes.mono _
      | exact catchpitref05_Texts.mono _ _ _
      | exact catchpitref07_Has.mono _ _ _
      | exact catchpitref07_Items.mono _ _
      | exact LeO.none _
      | refine LeO.ite ?_ ?_
      | refine LeO.bind ?_ (fun _ => ?_)
theorem catchpitlaw07_ListItems.mono : ∀ a0 a1 k, LeO (catchpitlaw07_ListItems.f k a0 a1) (catchpitlaw07_ListItems.f (k + 1) a0 a1) := by
  intro a0 a1 k
  have ih0 := catchpitlaw07_ListItems.mono_l k
  unfold catchpitlaw07_ListItems.f
  repeat' first
      | (with_reducible exact ih0 _ _ _)
      | (with_reducible exact catchpitlaw07_long.mono _ _)
      | (with_reducible exact catchpitlaw07_wakes.mono _)
      | (with_reducible exact catchpitref05_Texts.mono _ _ _)
      | (with_reducible exact catchpitref07_Has.mono _ _ _)
      | (with_reducible exact catchpitref07_Items.mono _ _)
      | (with_reducible exact LeO.refl _)
      | (with_reducible exact LeO.none _)
      | (with_reducible refine LeO.ite ?_ ?_)
      | (with_reducible refine LeO.bind ?_ (fun _ => ?_))
      | exact ih0 _ _ _
      | exact catchpitlaw07_long.mono _ _
      | exact catchpitlaw07_wakes.mono _
      | exact catchpitref05_Texts.mono _ _ _
      | exact catchpitref07_Has.mono _ _ _
      | exact catchpitref07_Items.mono _ _
      | exact LeO.none _
      | refine LeO.ite ?_ ?_
      | refine LeO.bind ?_ (fun _ => ?_)
end Go.Proofs.YtofegjgiocljlaaDoor.Pr
end
section
namespace Go.Proofs.YtofegjgiocljlaaDoor.Pr
open Go.RowKit Go.Proofs.YtofegjgiocljlaaDoorH Go.Proofs.YtofegjgiocljlaaDoorW.PrintWords Go.Proofs.YtofegjgiocljlaaDoorW.PrintLast Go.Proofs.YtofegjgiocljlaaDoorW.PrintMore
attribute [local go_sem] max2_int min2_int max_two min_two max_three min_three max_four min_four   -- for this text's walks alone
set_option linter.unusedVariables false
set_option linter.unusedSimpArgs false
def catchpitref07_Codings.l0 : Nat → List ByteArray → List ByteArray → Int → Option (List ByteArray × Int)
  | 0, _, _, _ => none
  | k + 1, x4, x5, x6 => if x6 < (x5.length : Int) then (if 0 ≤ x6 then ((catchpitref07_word.f k (rdOf ByteArray.empty x5 x6)).bind fun t167 => ((catchpitref02_Token.f k t167).bind fun t168 => (if t168 = true then ((catchpitref02_Small.f k t167).bind fun t169 => (if x4.length < 8796093022208 then (catchpitref07_Codings.l0 k (x4 ++ [t169]) x5 (wrap64 (x6 + 1))) else (none))) else (some (([] : List ByteArray), 2))))) else (none)) else (if (x4.length : Int) = 0 then (some (([] : List ByteArray), 2)) else (some (x4, 0)))
def catchpitref07_Codings.f (k : Nat) (l0 : List ByteArray) : Option (List ByteArray × Int) := if (l0.length : Int) = 0 then (some (([] : List ByteArray), 7)) else ((catchpitref07_Items.f k l0).bind fun t163 => (catchpitref07_Codings.l0 k ([] : List ByteArray) t163 0))
theorem catchpitref07_Codings.mono_l : ∀ k, (∀ y0 y1 y2, LeO (catchpitref07_Codings.l0 k y0 y1 y2) (catchpitref07_Codings.l0 (k + 1) y0 y1 y2))
  | 0 => fun _ _ _ r h => by simp [catchpitref07_Codings.l0] at h
  | k + 1 => by
    have ih0 := catchpitref07_Codings.mono_l k
    · intro y0 y1 y2
      unfold catchpitref07_Codings.l0
      repeat' first
      | (with_reducible exact ih0 _ _ _)
      | (with_reducible exact catchpitref02_Small.mono _ _)
      | (with_reducible exact catchpitref02_Token.mono _ _)
      | (with_reducible exact catchpitref07_Items.mono _ _)
      | (with_reducible exact catchpitref07_word.mono _ _)
      | (with_reducible exact LeO.refl _)
      | (with_reducible exact LeO.none _)
      | (with_reducible refine LeO.ite ?_ ?_)
      | (with_reducible refine LeO.bind ?_ (fun _ => ?_))
      | exact ih0 _ _ _
      | exact catchpitref02_Small.mono _ _
      | exact catchpitref02_Token.mono _ _
      | exact catchpitref07_Items.mono _ _
      | exact catchpitref07_word.mono _ _
      | exact LeO.none _
      | refine LeO.ite ?_ ?_
      | refine LeO.bind ?_ (fun _ => ?_)
theorem catchpitref07_Codings.mono : ∀ a0 k, LeO (catchpitref07_Codings.f k a0) (catchpitref07_Codings.f (k + 1) a0) := by
  intro a0 k
  have ih0 := catchpitref07_Codings.mono_l k
  unfold catchpitref07_Codings.f
  repeat' first
      | (with_reducible exact ih0 _ _ _)
      | (with_reducible exact catchpitref02_Small.mono _ _)
      | (with_reducible exact catchpitref02_Token.mono _ _)
      | (with_reducible exact catchpitref07_Items.mono _ _)
      | (with_reducible exact catchpitref07_word.mono _ _)
      | (with_reducible exact LeO.refl _)
      | (with_reducible exact LeO.none _)
      | (with_reducible refine LeO.ite ?_ ?_)
      | (with_reducible refine LeO.bind ?_ (fun _ => ?_))
      | exact ih0 _ _ _
      | exact catchpitref02_Small.mono _ _
      | exact catchpitref02_Token.mono _ _
      | exact catchpitref07_Items.mono _ _
      | exact catchpitref07_word.mono _ _
      | exact LeO.none _
      | refine LeO.ite ?_ ?_
      | refine LeO.bind ?_ (fun _ => ?_)
def catchpitlaw07_ListCodings.f (k : Nat) (l0 : List ByteArray) : Option (Bool) := (catchpitlaw07_wakes.f k).bind fun t173 => (if t173 = true then ((catchpitlaw07_long.f k l0).bind fun t174 => (if t174 = true then (some true) else ((list_Codings.f l0).bind fun bt175 => ((catchpitref07_Codings.f k l0).bind fun bt179 => ((catchpitref05_Texts.f k bt175.1 bt179.1).bind fun t183 => (if t183 = true then (some (bt175.2 == bt179.2)) else (some false))))))) else (some false))
theorem catchpitlaw07_ListCodings.mono : ∀ a0 k, LeO (catchpitlaw07_ListCodings.f k a0) (catchpitlaw07_ListCodings.f (k + 1) a0) := by
  intro a0 k
  unfold catchpitlaw07_ListCodings.f
  repeat' first
      | (with_reducible exact catchpitlaw07_long.mono _ _)
      | (with_reducible exact catchpitlaw07_wakes.mono _)
      | (with_reducible exact catchpitref05_Texts.mono _ _ _)
      | (with_reducible exact catchpitref07_Codings.mono _ _)
      | (with_reducible exact LeO.refl _)
      | (with_reducible exact LeO.none _)
      | (with_reducible refine LeO.ite ?_ ?_)
      | (with_reducible refine LeO.bind ?_ (fun _ => ?_))
      | exact catchpitlaw07_long.mono _ _
      | exact catchpitlaw07_wakes.mono _
      | exact catchpitref05_Texts.mono _ _ _
      | exact catchpitref07_Codings.mono _ _
      | exact LeO.none _
      | refine LeO.ite ?_ ?_
      | refine LeO.bind ?_ (fun _ => ?_)
end Go.Proofs.YtofegjgiocljlaaDoor.Pr
end
section
namespace Go.Proofs.YtofegjgiocljlaaDoorH
open Go.RowKit Go.Proofs.YtofegjgiocljlaaDoorW.PrintWords Go.Proofs.YtofegjgiocljlaaDoorW.PrintLast Go.Proofs.YtofegjgiocljlaaDoorW.PrintMore Go.Proofs.YtofegjgiocljlaaDoor.Pr
theorem itemsL_length (xs : List ByteArray) : (itemsL xs).length ≤ sumS xs := by
  unfold itemsL
  rw [List.length_map]
  exact itemsF_length xs 0
theorem codR_length (xs : List ByteArray) (hS : sumS xs ≤ 1000000) : (codR xs).1.length ≤ 1000000 := by
  have hn := itemsL_length xs
  unfold codR
  split
  · exact Nat.zero_le _
  split
  · exact Nat.zero_le _
  split
  · exact Nat.zero_le _
  · show (codesL (itemsL xs)).length ≤ _
    unfold codesL
    rw [List.length_map]
    omega
end Go.Proofs.YtofegjgiocljlaaDoorH
end
section
namespace Go.Proofs.YtofegjgiocljlaaDoorH
open Go.RowKit Go.Proofs.YtofegjgiocljlaaDoorW.PrintWords Go.Proofs.YtofegjgiocljlaaDoorW.PrintLast Go.Proofs.YtofegjgiocljlaaDoorW.PrintMore Go.Proofs.YtofegjgiocljlaaDoor.Pr
theorem wakes07 : Ev (fun k => catchpitlaw07_wakes.f k) true := by
  obtain ⟨K, hK⟩ := ref05_Texts [(⟨#[103, 122, 105, 112]⟩ : ByteArray), (⟨#[99, 104, 117, 110, 107, 101, 100]⟩ : ByteArray)] (by decide)
  dsimp only at hK
  have e1 : list_Length.f (([(⟨#[53]⟩ : ByteArray), (⟨#[53, 44, 32, 53]⟩ : ByteArray)] : List ByteArray)) = some (5, 0) := by decide +kernel
  have e2 : list_Length.f (([(⟨#[53]⟩ : ByteArray), (⟨#[54]⟩ : ByteArray)] : List ByteArray)) = some (0, 2) := by decide +kernel
  have e3 : list_Codings.f (([(⟨#[103, 122, 105, 112, 59, 113, 61, 49, 44, 32, 67, 104, 117, 110, 107, 101, 100]⟩ : ByteArray)] : List ByteArray)) = some ([(⟨#[103, 122, 105, 112]⟩ : ByteArray), (⟨#[99, 104, 117, 110, 107, 101, 100]⟩ : ByteArray)], 0) := by decide +kernel
  refine ⟨K, fun k hk => ?_⟩
  show catchpitlaw07_wakes.f k = _
  unfold catchpitlaw07_wakes.f
  rw [e1, Option.bind_some, e2, Option.bind_some, e3, Option.bind_some, if_pos rfl, if_pos rfl, if_pos rfl, if_pos rfl, hK k hk, Option.bind_some]
end Go.Proofs.YtofegjgiocljlaaDoorH
end
section
namespace Go.Proofs.YtofegjgiocljlaaDoor.Pr
open Go.RowKit Go.Proofs.YtofegjgiocljlaaDoorH Go.Proofs.YtofegjgiocljlaaDoorW.PrintWords Go.Proofs.YtofegjgiocljlaaDoorW.PrintLast Go.Proofs.YtofegjgiocljlaaDoorW.PrintMore
attribute [local go_sem] max2_int min2_int max_two min_two max_three min_three max_four min_four   -- for this text's walks alone
set_option linter.unusedVariables false
set_option linter.unusedSimpArgs false
mutual
def catchpitref07_Number.l0 : Nat → ByteArray → Int → Int → Option (Int × Int)
  | 0, _, _, _ => none
  | k + 1, x0, x4, x5 => if x5 < (x0.size : Int) then (if 0 ≤ x5 then (if (bt x0 x5) < 48 then (catchpitref07_Number.j1 k x0 x4 x5 true) else (catchpitref07_Number.j1 k x0 x4 x5 (decide ((bt x0 x5) > 57)))) else (none)) else (if (wrap64 ((x0.size : Int) - x4)) > 19 then (some (0, 3)) else (catchpitref07_Number.l1 k x0 0 x4))
def catchpitref07_Number.j1 : Nat → ByteArray → Int → Int → Bool → Option (Int × Int)
  | 0, _, _, _, _ => none
  | k + 1, x0, x4, x5, x26 => if x26 = true then (some (0, 2)) else (if 0 ≤ x5 then (if x5 < (x0.size : Int) then (if (bt x0 x5) = 48 then (if x4 = x5 then (if x5 < (wrap64 ((x0.size : Int) - 1)) then (catchpitref07_Number.l0 k x0 (wrap64 (x4 + 1)) (wrap64 (x5 + 1))) else (catchpitref07_Number.l0 k x0 x4 (wrap64 (x5 + 1)))) else (catchpitref07_Number.l0 k x0 x4 (wrap64 (x5 + 1)))) else (catchpitref07_Number.l0 k x0 x4 (wrap64 (x5 + 1)))) else (none)) else (none))
def catchpitref07_Number.l1 : Nat → ByteArray → Int → Int → Option (Int × Int)
  | 0, _, _, _ => none
  | k + 1, x0, x6, x7 => if x7 < (x0.size : Int) then (if 0 ≤ x7 then (catchpitref07_Number.l1 k x0 (IntKind.u64.wrap ((IntKind.u64.wrap (10 * x6)) + (((bt x0 x7) - 48) % 256))) (wrap64 (x7 + 1))) else (none)) else (if x6 > 4611686018427387903 then (some (0, 3)) else (some (x6, 0)))
end
def catchpitref07_Number.f (k : Nat) (a0 : ByteArray) : Option (Int × Int) := if (a0.size : Int) = 0 then (some (0, 2)) else (catchpitref07_Number.l0 k a0 0 0)
theorem catchpitref07_Number.mono_l : ∀ k, (∀ y0 y1 y2, LeO (catchpitref07_Number.l0 k y0 y1 y2) (catchpitref07_Number.l0 (k + 1) y0 y1 y2)) ∧ (∀ y0 y1 y2 y3, LeO (catchpitref07_Number.j1 k y0 y1 y2 y3) (catchpitref07_Number.j1 (k + 1) y0 y1 y2 y3)) ∧ (∀ y0 y1 y2, LeO (catchpitref07_Number.l1 k y0 y1 y2) (catchpitref07_Number.l1 (k + 1) y0 y1 y2))
  | 0 => ⟨fun _ _ _ r h => by simp [catchpitref07_Number.l0] at h, fun _ _ _ _ r h => by simp [catchpitref07_Number.j1] at h, fun _ _ _ r h => by simp [catchpitref07_Number.l1] at h⟩
  | k + 1 => by
    obtain ⟨ih0, ih1, ih2⟩ := catchpitref07_Number.mono_l k
    refine ⟨?_, ?_, ?_⟩
    · intro y0 y1 y2
      unfold catchpitref07_Number.l0
      repeat' first
      | (with_reducible exact ih0 _ _ _)
      | (with_reducible exact ih1 _ _ _ _)
      | (with_reducible exact ih2 _ _ _)
      | (with_reducible exact LeO.refl _)
      | (with_reducible exact LeO.none _)
      | (with_reducible refine LeO.ite ?_ ?_)
      | (with_reducible refine LeO.bind ?_ (fun _ => ?_))
      | exact ih0 _ _ _
      | exact ih1 _ _ _ _
      | exact ih2 _ _ _
      | exact LeO.none _
      | refine LeO.ite ?_ ?_
      | refine LeO.bind ?_ (fun _ => ?_)
    · intro y0 y1 y2 y3
      unfold catchpitref07_Number.j1
      repeat' first
      | (with_reducible exact ih0 _ _ _)
      | (with_reducible exact ih1 _ _ _ _)
      | (with_reducible exact ih2 _ _ _)
      | (with_reducible exact LeO.refl _)
      | (with_reducible exact LeO.none _)
      | (with_reducible refine LeO.ite ?_ ?_)
      | (with_reducible refine LeO.bind ?_ (fun _ => ?_))
      | exact ih0 _ _ _
      | exact ih1 _ _ _ _
      | exact ih2 _ _ _
      | exact LeO.none _
      | refine LeO.ite ?_ ?_
      | refine LeO.bind ?_ (fun _ => ?_)
    · intro y0 y1 y2
      unfold catchpitref07_Number.l1
      repeat' first
      | (with_reducible exact ih0 _ _ _)
      | (with_reducible exact ih1 _ _ _ _)
      | (with_reducible exact ih2 _ _ _)
      | (with_reducible exact LeO.refl _)
      | (with_reducible exact LeO.none _)
      | (with_reducible refine LeO.ite ?_ ?_)
      | (with_reducible refine LeO.bind ?_ (fun _ => ?_))
      | exact ih0 _ _ _
      | exact ih1 _ _ _ _
      | exact ih2 _ _ _
      | exact LeO.none _
      | refine LeO.ite ?_ ?_
      | refine LeO.bind ?_ (fun _ => ?_)
theorem catchpitref07_Number.mono : ∀ a0 k, LeO (catchpitref07_Number.f k a0) (catchpitref07_Number.f (k + 1) a0) := by
  intro a0 k
  obtain ⟨ih0, ih1, ih2⟩ := catchpitref07_Number.mono_l k
  unfold catchpitref07_Number.f
  repeat' first
      | (with_reducible exact ih0 _ _ _)
      | (with_reducible exact ih1 _ _ _ _)
      | (with_reducible exact ih2 _ _ _)
      | (with_reducible exact LeO.refl _)
      | (with_reducible exact LeO.none _)
      | (with_reducible refine LeO.ite ?_ ?_)
      | (with_reducible refine LeO.bind ?_ (fun _ => ?_))
      | exact ih0 _ _ _
      | exact ih1 _ _ _ _
      | exact ih2 _ _ _
      | exact LeO.none _
      | refine LeO.ite ?_ ?_
      | refine LeO.bind ?_ (fun _ => ?_)
end Go.Proofs.YtofegjgiocljlaaDoor.Pr
end
section
namespace Go.Proofs.YtofegjgiocljlaaDoor.Pr
open Go.RowKit Go.Proofs.YtofegjgiocljlaaDoorH Go.Proofs.YtofegjgiocljlaaDoorW.PrintWords Go.Proofs.YtofegjgiocljlaaDoorW.PrintLast Go.Proofs.YtofegjgiocljlaaDoorW.PrintMore
attribute [local go_sem] max2_int min2_int max_two min_two max_three min_three max_four min_four   -- for this text's walks alone
set_option linter.unusedVariables false
set_option linter.unusedSimpArgs false
mutual
def catchpitref07_Length.l0 : Nat → List ByteArray → Bool → Bool → Int → Int → Option (Int × Int)
  | 0, _, _, _, _, _ => none
  | k + 1, x0, x4, x5, x6, x7 => if x7 < (x0.length : Int) then (if 0 ≤ x7 then (if x7 ≤ (wrap64 (x7 + 1)) then (if (wrap64 (x7 + 1)) ≤ (x0.length : Int) then ((catchpitref07_Items.f k ((x0.take ((wrap64 (x7 + 1)) : Int).toNat).drop (x7 : Int).toNat)).bind fun t271 => (if (t271.length : Int) = 0 then (some (0, 2)) else (catchpitref07_Length.l1 k x0 x4 x5 x6 x7 t271 0))) else (none)) else (none)) else (none)) else (if x4 = true then (some (0, 3)) else (if x5 = true then (some (x6, 0)) else (some (0, 2))))
def catchpitref07_Length.l1 : Nat → List ByteArray → Bool → Bool → Int → Int → List ByteArray → Int → Option (Int × Int)
  | 0, _, _, _, _, _, _, _ => none
  | k + 1, x0, x4, x5, x6, x7, x8, x9 => if x9 < (x8.length : Int) then (if 0 ≤ x9 then ((catchpitref07_Number.f k (rdOf ByteArray.empty x8 x9)).bind fun bt275 => (if bt275.2 = 2 then (some (0, 2)) else (if bt275.2 = 3 then (if (wrap64 (x7 + x9)) > 0 then (if bt275.1 = x6 then (catchpitref07_Length.l1 k x0 true x5 bt275.1 x7 x8 (wrap64 (x9 + 1))) else (catchpitref07_Length.l1 k x0 true false bt275.1 x7 x8 (wrap64 (x9 + 1)))) else (catchpitref07_Length.l1 k x0 true x5 bt275.1 x7 x8 (wrap64 (x9 + 1)))) else (if (wrap64 (x7 + x9)) > 0 then (if bt275.1 = x6 then (catchpitref07_Length.l1 k x0 x4 x5 bt275.1 x7 x8 (wrap64 (x9 + 1))) else (catchpitref07_Length.l1 k x0 x4 false bt275.1 x7 x8 (wrap64 (x9 + 1)))) else (catchpitref07_Length.l1 k x0 x4 x5 bt275.1 x7 x8 (wrap64 (x9 + 1))))))) else (none)) else (catchpitref07_Length.l0 k x0 x4 x5 x6 (wrap64 (x7 + 1)))
end
def catchpitref07_Length.f (k : Nat) (l0 : List ByteArray) : Option (Int × Int) := if (l0.length : Int) = 0 then (some (0, 7)) else (catchpitref07_Length.l0 k l0 false true 0 0)
theorem catchpitref07_Length.mono_l : ∀ k, (∀ y0 y1 y2 y3 y4, LeO (catchpitref07_Length.l0 k y0 y1 y2 y3 y4) (catchpitref07_Length.l0 (k + 1) y0 y1 y2 y3 y4)) ∧ (∀ y0 y1 y2 y3 y4 y5 y6, LeO (catchpitref07_Length.l1 k y0 y1 y2 y3 y4 y5 y6) (catchpitref07_Length.l1 (k + 1) y0 y1 y2 y3 y4 y5 y6))
  | 0 => ⟨fun _ _ _ _ _ r h => by simp [catchpitref07_Length.l0] at h, fun _ _ _ _ _ _ _ r h => by simp [catchpitref07_Length.l1] at h⟩
  | k + 1 => by
    obtain ⟨ih0, ih1⟩ := catchpitref07_Length.mono_l k
    refine ⟨?_, ?_⟩
    · intro y0 y1 y2 y3 y4
      unfold catchpitref07_Length.l0
      repeat' first
      | (with_reducible exact ih0 _ _ _ _ _)
      | (with_reducible exact ih1 _ _ _ _ _ _ _)
      | (with_reducible exact catchpitref07_Items.mono _ _)
      | (with_reducible exact catchpitref07_Number.mono _ _)
      | (with_reducible exact LeO.refl _)
      | (with_reducible exact LeO.none _)
      | (with_reducible refine LeO.ite ?_ ?_)
      | (with_reducible refine LeO.bind ?_ (fun _ => ?_))
      | exact ih0 _ _ _ _ _
      | exact ih1 _ _ _ _ _ _ _
      | exact catchpitref07_Items.mono _ _
      | exact catchpitref07_Number.mono _ _
      | exact LeO.none _
      | refine LeO.ite ?_ ?_
      | refine LeO.bind ?_ (fun _ => ?_)
    · intro y0 y1 y2 y3 y4 y5 y6
      unfold catchpitref07_Length.l1
      repeat' first
      | (with_reducible exact ih0 _ _ _ _ _)
      | (with_reducible exact ih1 _ _ _ _ _ _ _)
      | (with_reducible exact catchpitref07_Items.mono _ _)
      | (with_reducible exact catchpitref07_Number.mono _ _)
      | (with_reducible exact LeO.refl _)
      | (with_reducible exact LeO.none _)
      | (with_reducible refine LeO.ite ?_ ?_)
      | (with_reducible refine LeO.bind ?_ (fun _ => ?_))
      | exact ih0 _ _ _ _ _
      | exact ih1 _ _ _ _ _ _ _
      | exact catchpitref07_Items.mono _ _
      | exact catchpitref07_Number.mono _ _
      | exact LeO.none _
      | refine LeO.ite ?_ ?_
      | refine LeO.bind ?_ (fun _ => ?_)
theorem catchpitref07_Length.mono : ∀ a0 k, LeO (catchpitref07_Length.f k a0) (catchpitref07_Length.f (k + 1) a0) := by
  intro a0 k
  obtain ⟨ih0, ih1⟩ := catchpitref07_Length.mono_l k
  unfold catchpitref07_Length.f
  repeat' first
      | (with_reducible exact ih0 _ _ _ _ _)
      | (with_reducible exact ih1 _ _ _ _ _ _ _)
      | (with_reducible exact catchpitref07_Items.mono _ _)
      | (with_reducible exact catchpitref07_Number.mono _ _)
      | (with_reducible exact LeO.refl _)
      | (with_reducible exact LeO.none _)
      | (with_reducible refine LeO.ite ?_ ?_)
      | (with_reducible refine LeO.bind ?_ (fun _ => ?_))
      | exact ih0 _ _ _ _ _
      | exact ih1 _ _ _ _ _ _ _
      | exact catchpitref07_Items.mono _ _
      | exact catchpitref07_Number.mono _ _
      | exact LeO.none _
      | refine LeO.ite ?_ ?_
      | refine LeO.bind ?_ (fun _ => ?_)
def catchpitlaw07_ListLengths.j0 : Nat → List ByteArray → ByteArray → Bool → Option (Bool)
  | 0, _, _, _ => none
  | k + 1, x0, x1, x21 => if x21 = true then (some true) else ((list_Length.f x0).bind fun bt279 => ((catchpitref07_Length.f k x0).bind fun bt281 => ((list_Number.f x1).bind fun bt283 => ((catchpitref07_Number.f k x1).bind fun bt285 => (if bt279.1 = bt281.1 then (if bt279.2 = bt281.2 then (if bt283.1 = bt285.1 then (some (bt283.2 == bt285.2)) else (some false)) else (some false)) else (some false))))))
def catchpitlaw07_ListLengths.f (k : Nat) (l0 : List ByteArray) (a1 : ByteArray) : Option (Bool) := (catchpitlaw07_wakes.f k).bind fun t277 => (if t277 = true then ((catchpitlaw07_long.f k l0).bind fun t278 => (if t278 = true then (catchpitlaw07_ListLengths.j0 k l0 a1 true) else (catchpitlaw07_ListLengths.j0 k l0 a1 (decide ((a1.size : Int) > 500))))) else (some false))
theorem catchpitlaw07_ListLengths.mono_l : ∀ k, (∀ y0 y1 y2, LeO (catchpitlaw07_ListLengths.j0 k y0 y1 y2) (catchpitlaw07_ListLengths.j0 (k + 1) y0 y1 y2))
  | 0 => fun _ _ _ r h => by simp [catchpitlaw07_ListLengths.j0] at h
  | k + 1 => by
    have ih0 := catchpitlaw07_ListLengths.mono_l k
    · intro y0 y1 y2
      unfold catchpitlaw07_ListLengths.j0
      repeat' first
      | (with_reducible exact ih0 _ _ _)
      | (with_reducible exact catchpitlaw07_long.mono _ _)
      | (with_reducible exact catchpitlaw07_wakes.mono _)
      | (with_reducible exact catchpitref07_Length.mono _ _)
      | (with_reducible exact catchpitref07_Number.mono _ _)
      | (with_reducible exact LeO.refl _)
      | (with_reducible exact LeO.none _)
      | (with_reducible refine LeO.ite ?_ ?_)
      | (with_reducible refine LeO.bind ?_ (fun _ => ?_))
      | exact ih0 _ _ _
      | exact catchpitlaw07_long.mono _ _
      | exact catchpitlaw07_wakes.mono _
      | exact catchpitref07_Length.mono _ _
      | exact catchpitref07_Number.mono _ _
      | exact LeO.none _
      | refine LeO.ite ?_ ?_
      | refine LeO.bind ?_ (fun _ => ?_)
theorem catchpitlaw07_ListLengths.mono : ∀ a0 a1 k, LeO (catchpitlaw07_ListLengths.f k a0 a1) (catchpitlaw07_ListLengths.f (k + 1) a0 a1) := by
  intro a0 a1 k
  have ih0 := catchpitlaw07_ListLengths.mono_l k
  unfold catchpitlaw07_ListLengths.f
  repeat' first
      | (with_reducible exact ih0 _ _ _)
      | (with_reducible exact catchpitlaw07_long.mono _ _)
      | (with_reducible exact catchpitlaw07_wakes.mono _)
      | (with_reducible exact catchpitref07_Length.mono _ _)
      | (with_reducible exact catchpitref07_Number.mono _ _)
      | (with_reducible exact LeO.refl _)
      | (with_reducible exact LeO.none _)
      | (with_reducible refine LeO.ite ?_ ?_)
      | (with_reducible refine LeO.bind ?_ (fun _ => ?_))
      | exact ih0 _ _ _
      | exact catchpitlaw07_long.mono _ _
      | exact catchpitlaw07_wakes.mono _
      | exact catchpitref07_Length.mono _ _
      | exact catchpitref07_Number.mono _ _
      | exact LeO.none _
      | refine LeO.ite ?_ ?_
      | refine LeO.bind ?_ (fun _ => ?_)
end Go.Proofs.YtofegjgiocljlaaDoor.Pr
end
section
namespace Go.Proofs.YtofegjgiocljlaaDoorH
open Go.RowKit Go.Proofs.YtofegjgiocljlaaDoorW.PrintWords Go.Proofs.YtofegjgiocljlaaDoorW.PrintLast Go.Proofs.YtofegjgiocljlaaDoorW.PrintMore Go.Proofs.YtofegjgiocljlaaDoor.Pr
def alikeN (l : List Int) : Bool := l.all fun x => x == l.getD 0 0
def lastN (l : List Int) : Int := l.getLastD 0
theorem lastN_snoc (l : List Int) (x : Int) : lastN (l ++ [x]) = x := by
  unfold lastN
  rw [List.getLastD_eq_getLast?, List.getLast?_append]
  rfl
theorem lastN_mem (l : List Int) (h : l ≠ []) : lastN l ∈ l := by
  rcases List.eq_nil_or_concat l with e | ⟨m, x, e⟩
  · exact absurd e h
  · rw [List.concat_eq_append] at e
    rw [e, lastN_snoc]
    simp
theorem alikeN_all {l : List Int} (h : alikeN l = true) : ∀ x ∈ l, x = l.getD 0 0 := fun x hx => by
  have := List.all_eq_true.1 h x hx
  exact eq_of_beq this
theorem alikeN_last {l : List Int} (h : alikeN l = true) (hne : l ≠ []) : lastN l = l.getD 0 0 := alikeN_all h _ (lastN_mem l hne)
theorem foldmin_le : ∀ (l : List Int) (a : Int), l.foldl min a ≤ a ∧ ∀ x ∈ l, l.foldl min a ≤ x
  | [], a => ⟨Int.le_refl _, fun _ h => absurd h List.not_mem_nil⟩
  | b :: l, a => by
    obtain ⟨h1, h2⟩ := foldmin_le l (min a b)
    rw [List.foldl_cons]
    refine ⟨by omega, fun x hx => ?_⟩
    rcases List.mem_cons.1 hx with rfl | hx
    · omega
    · exact h2 x hx
theorem foldmax_ge : ∀ (l : List Int) (a : Int), a ≤ l.foldl max a ∧ ∀ x ∈ l, x ≤ l.foldl max a
  | [], a => ⟨Int.le_refl _, fun _ h => absurd h List.not_mem_nil⟩
  | b :: l, a => by
    obtain ⟨h1, h2⟩ := foldmax_ge l (max a b)
    rw [List.foldl_cons]
    refine ⟨by omega, fun x hx => ?_⟩
    rcases List.mem_cons.1 hx with rfl | hx
    · omega
    · exact h2 x hx
theorem fold_same : ∀ (l : List Int) (a : Int), (∀ x ∈ l, x = a) → l.foldl min a = a ∧ l.foldl max a = a
  | [], a, _ => ⟨rfl, rfl⟩
  | b :: l, a, h => by
    have hb := h b List.mem_cons_self
    subst hb
    rw [List.foldl_cons, List.foldl_cons, show min b b = b by omega, show max b b = b by omega]
    exact fold_same l b (fun x hx => h x (List.mem_cons_of_mem _ hx))
theorem minmax_alike (l : List Int) (hne : l ≠ []) : (minI l = maxI l) ↔ alikeN l = true := by
  cases l with
  | nil => exact absurd rfl hne
  | cons a l =>
    show (l.foldl min a = l.foldl max a) ↔ _
    constructor
    · intro h
      obtain ⟨h1, h2⟩ := foldmin_le l a
      obtain ⟨h3, h4⟩ := foldmax_ge l a
      refine List.all_eq_true.2 fun x hx => ?_
      show (x == a) = true
      rcases List.mem_cons.1 hx with rfl | hx
      · exact beq_self_eq_true _
      · have := h2 x hx
        have := h4 x hx
        exact beq_iff_eq.2 (by omega)
    · intro h
      obtain ⟨h1, h2⟩ := fold_same l a (fun x hx => alikeN_all h x (List.mem_cons_of_mem _ hx))
      rw [h1, h2]
theorem mem_itemsF : ∀ (xs : List ByteArray) (i : Nat) (y : Nat × ByteArray), y ∈ itemsF i xs ↔ ∃ j, j < xs.length ∧ y.1 = i + j ∧ y.2 ∈ itemsP (xs.getD j ByteArray.empty)
  | [], i, y => ⟨fun h => absurd h List.not_mem_nil, fun ⟨j, h, _⟩ => absurd h (Nat.not_lt_zero _)⟩
  | v :: xs, i, y => by
    rw [itemsF, List.mem_append]
    constructor
    · rintro (h | h)
      · obtain ⟨x, hx, rfl⟩ := List.mem_map.1 h
        exact ⟨0, Nat.succ_pos _, rfl, hx⟩
      · obtain ⟨j, h1, h2, h3⟩ := (mem_itemsF xs (i + 1) y).1 h
        exact ⟨j + 1, Nat.succ_lt_succ h1, by omega, h3⟩
    · rintro ⟨j, h1, h2, h3⟩
      cases j with
      | zero => exact .inl (List.mem_map.2 ⟨y.2, h3, by rw [Prod.ext_iff]; exact ⟨h2.symm, rfl⟩⟩)
      | succ j => exact .inr ((mem_itemsF xs (i + 1) y).2 ⟨j, Nat.lt_of_succ_lt_succ h1, by omega, h3⟩)
theorem fold_met : ∀ (l : List (Nat × ByteArray)) (m : List Int) (j : Nat), (∀ i, 0 ≤ m.getD i 0) → j < m.length →
    0 ≤ (l.foldl (fun m y => m.set y.1 (m.getD y.1 0 + 1)) m).getD j 0 ∧ ((l.foldl (fun m y => m.set y.1 (m.getD y.1 0 + 1)) m).getD j 0 = 0 ↔ m.getD j 0 = 0 ∧ ∀ y ∈ l, y.1 ≠ j)
  | [], m, j, h, _ => ⟨h j, fun e => ⟨e, fun _ h => absurd h List.not_mem_nil⟩, fun e => e.1⟩
  | y :: l, m, j, h, hj => by
    have hm : ∀ i, 0 ≤ (m.set y.1 (m.getD y.1 0 + 1)).getD i 0 := fun i => by
      rw [getD_set]
      have h1 := h i
      have h2 := h y.1
      split <;> omega
    obtain ⟨h1, h2⟩ := fold_met l (m.set y.1 (m.getD y.1 0 + 1)) j hm (by rw [List.length_set]; exact hj)
    rw [List.foldl_cons]
    refine ⟨h1, h2.trans ?_⟩
    rw [getD_set]
    have hy := h y.1
    by_cases he : y.1 = j
    · rw [if_pos ⟨he, hj⟩]
      exact ⟨fun e => by have := e.1; omega, fun e => absurd he (e.2 y List.mem_cons_self)⟩
    · rw [if_neg (fun e => he e.1)]
      exact ⟨fun e => ⟨e.1, fun z hz => (List.mem_cons.1 hz).elim (fun e => e ▸ he) (e.2 z)⟩, fun e => ⟨e.1, fun z hz => e.2 z (List.mem_cons_of_mem _ hz)⟩⟩
theorem met_iff (xs : List ByteArray) : (metL xs.length (itemsF 0 xs)).contains 0 = true ↔ ∃ j, j < xs.length ∧ itemsP (xs.getD j ByteArray.empty) = [] := by
  have hlen := metL_length xs.length (itemsF 0 xs)
  have hz : ∀ i, (0 : Int) ≤ (List.replicate xs.length (0 : Int)).getD i 0 ∧ (List.replicate xs.length (0 : Int)).getD i 0 = 0 := fun i => by
    rw [List.getD_eq_getElem?_getD, List.getElem?_replicate]
    split <;> simp
  have key : ∀ j, j < xs.length → ((metL xs.length (itemsF 0 xs)).getD j 0 = 0 ↔ itemsP (xs.getD j ByteArray.empty) = []) := by
    intro j hj
    refine (fold_met (itemsF 0 xs) (List.replicate xs.length 0) j (fun i => (hz i).1) (by rw [List.length_replicate]; exact hj)).2.trans ?_
    constructor
    · rintro ⟨_, h⟩
      rcases hq : itemsP (xs.getD j ByteArray.empty) with _ | ⟨a, r⟩
      · rfl
      · exact absurd rfl (h (j, a) ((mem_itemsF xs 0 (j, a)).2 ⟨j, hj, (Nat.zero_add j).symm, by rw [hq]; exact List.mem_cons_self⟩))
    · intro h
      refine ⟨(hz j).2, fun y hy e => ?_⟩
      obtain ⟨i, h1, h2, h3⟩ := (mem_itemsF xs 0 y).1 hy
      obtain rfl : i = j := by omega
      rw [h] at h3
      exact absurd h3 List.not_mem_nil
  rw [List.contains_iff_mem]
  constructor
  · intro h
    obtain ⟨j, hj, he⟩ := List.getElem_of_mem h
    refine ⟨j, by omega, (key j (by omega)).1 ?_⟩
    rw [List.getD_eq_getElem?_getD, List.getElem?_eq_getElem hj]
    exact he
  · rintro ⟨j, hj, h⟩
    have := (key j hj).2 h
    rw [← this]
    exact mem_getD _ 0 j (by omega)
theorem nums_ne {l : List (Nat × ByteArray)} (h : l ≠ []) : nums l ≠ [] := fun e => h (List.map_eq_nil_iff.1 e)
theorem lenR_whole (xs : List ByteArray) (h0 : xs.length ≠ 0) (hall : ∀ j, j < xs.length → itemsP (xs.getD j ByteArray.empty) ≠ []) (hb : badN (itemsF 0 xs) = false) :
    lenR xs = if bigN (itemsF 0 xs) = true then (0, 3) else if alikeN (nums (itemsF 0 xs)) = true then (lastN (nums (itemsF 0 xs)), 0) else (0, 2) := by
  have hne : itemsF 0 xs ≠ [] := by
    obtain ⟨a, r, hq⟩ := List.exists_cons_of_ne_nil (hall 0 (by omega))
    intro e
    have := (mem_itemsF xs 0 (0, a)).2 ⟨0, by omega, rfl, by rw [hq]; exact List.mem_cons_self⟩
    rw [e] at this
    exact absurd this List.not_mem_nil
  unfold lenR
  rw [if_neg h0, if_neg (by rw [hb]; decide), if_neg (fun h => by obtain ⟨j, hj, he⟩ := (met_iff xs).1 h; exact hall j hj he)]
  by_cases hg : bigN (itemsF 0 xs) = true
  · rw [if_pos hg, if_pos hg]
  · rw [if_neg hg, if_neg hg]
    by_cases ha : alikeN (nums (itemsF 0 xs)) = true
    · rw [if_neg (fun h => h ((minmax_alike _ (nums_ne hne)).2 ha)), if_pos ha, alikeN_last ha (nums_ne hne)]
    · rw [if_pos (fun h => ha ((minmax_alike _ (nums_ne hne)).1 h)), if_neg ha]
theorem lenR_bad (xs : List ByteArray) (h0 : xs.length ≠ 0) (h : badN (itemsF 0 xs) = true ∨ ∃ j, j < xs.length ∧ itemsP (xs.getD j ByteArray.empty) = []) : lenR xs = (0, 2) := by
  unfold lenR
  rw [if_neg h0]
  by_cases hb : badN (itemsF 0 xs) = true
  · rw [if_pos hb]
  · rw [if_neg hb, if_pos ((met_iff xs).2 (h.resolve_left hb))]
end Go.Proofs.YtofegjgiocljlaaDoorH
end
section
namespace Go.Proofs.YtofegjgiocljlaaDoor.Pure
open Go.RowKit Go.Proofs.YtofegjgiocljlaaDoorH Go.Proofs.YtofegjgiocljlaaDoor.Pr Go.Proofs.YtofegjgiocljlaaDoorW.PrintWords Go.Proofs.YtofegjgiocljlaaDoorW.PrintLast
def joined (a b : ByteArray) : ByteArray := (a ++ (⟨#[44]⟩ : ByteArray)) ++ b
theorem joined_data (a b : ByteArray) : (joined a b).data.toList = a.data.toList ++ 44 :: b.data.toList := by
  unfold joined
  rw [append_data, append_data, List.append_assoc]
  rfl
theorem itemsP_joined (a b : ByteArray) : itemsP (joined a b) = itemsP a ++ itemsP b := by
  rw [itemsP_flat, itemsP_flat, itemsP_flat]
  unfold partsB
  rw [joined_data, splitL_append, List.map_append, List.flatMap_append]
theorem itemsL_two (a b : ByteArray) : itemsL [a, b] = itemsP a ++ itemsP b := by
  rw [itemsL_flat, List.flatMap_cons, List.flatMap_cons, List.flatMap_nil, List.append_nil]
theorem itemsL_joined (a b : ByteArray) : itemsL [joined a b] = itemsL [a, b] := by rw [itemsL_one, itemsP_joined, itemsL_two]
theorem codR_joined (a b : ByteArray) : codR [joined a b] = codR [a, b] := by
  unfold codR
  rw [itemsL_joined, if_neg (show ¬ [joined a b].length = 0 by simp), if_neg (show ¬ [a, b].length = 0 by simp)]
theorem badN_snds (l : List (Nat × ByteArray)) : badN l = (l.map fun y => y.2).any fun y => (numR y).2 == 2 := by
  unfold badN
  rw [List.any_map]
  rfl
theorem bigN_snds (l : List (Nat × ByteArray)) : bigN l = (l.map fun y => y.2).any fun y => (numR y).2 == 3 := by
  unfold bigN
  rw [List.any_map]
  rfl
theorem nums_snds (l : List (Nat × ByteArray)) : Go.Proofs.YtofegjgiocljlaaDoorH.nums l = (l.map fun y => y.2).map fun y => (numR y).1 := by
  unfold Go.Proofs.YtofegjgiocljlaaDoorH.nums
  rw [List.map_map]
  rfl
theorem lenR_joined (a b : ByteArray) (ha : itemsP a ≠ []) (hb : itemsP b ≠ []) : lenR [joined a b] = lenR [a, b] := by
  have e : (itemsF 0 [joined a b]).map (fun y => y.2) = (itemsF 0 [a, b]).map (fun y => y.2) := itemsL_joined a b
  have h1 : badN (itemsF 0 [joined a b]) = badN (itemsF 0 [a, b]) := by rw [badN_snds, e, badN_snds]
  have h2 : bigN (itemsF 0 [joined a b]) = bigN (itemsF 0 [a, b]) := by rw [bigN_snds, e, bigN_snds]
  have h3 : Go.Proofs.YtofegjgiocljlaaDoorH.nums (itemsF 0 [joined a b]) = Go.Proofs.YtofegjgiocljlaaDoorH.nums (itemsF 0 [a, b]) := by rw [nums_snds, e, nums_snds]
  cases hbad : badN (itemsF 0 [a, b]) with
  | true => rw [lenR_bad _ (by simp) (.inl (h1.trans hbad)), lenR_bad _ (by simp) (.inl hbad)]
  | false =>
    rw [lenR_whole _ (by simp) ?_ (h1.trans hbad), lenR_whole _ (by simp) ?_ hbad, h2, h3]
    · intro j hj
      obtain rfl | rfl : j = 0 ∨ j = 1 := by simp at hj; omega
      · exact ha
      · exact hb
    · intro j hj
      obtain rfl : j = 0 := by simp at hj; omega
      show itemsP (joined a b) ≠ []
      rw [itemsP_joined]
      exact fun h => ha (List.append_eq_nil_iff.1 h).1
theorem ListJoins : catchpitlaw07_ListJoins.Pure := by
  intro a b ha hb
  obtain ⟨K1, g1⟩ := wakes07
  dsimp only at g1
  by_cases h1 : (a.size : Int) > 400
  · refine ⟨K1 + 1, ?_⟩
    rw [catchpitlaw07_ListJoins.f, g1 _ (by omega), Option.bind_some, if_pos rfl, if_pos h1, catchpitlaw07_ListJoins.j0, if_pos rfl]
  by_cases h2 : (b.size : Int) > 400
  · refine ⟨K1 + 1, ?_⟩
    rw [catchpitlaw07_ListJoins.f, g1 _ (by omega), Option.bind_some, if_pos rfl, if_neg h1, catchpitlaw07_ListJoins.j0, if_pos (decide_eq_true h2)]
  have s1 : sumS [a, b] = a.size + 1 + (b.size + 1) := by rw [sumS_cons, sumS_cons]; rfl
  have sj : ((a ++ (⟨#[44]⟩ : ByteArray)) ++ b).size = a.size + 1 + b.size := by rw [ByteArray.size_append, ByteArray.size_append]; rfl
  have s2 : sumS [joined a b] = a.size + 1 + b.size + 1 := by rw [sumS_cons]; show ((a ++ (⟨#[44]⟩ : ByteArray)) ++ b).size + 1 + 0 = _; omega
  have s3 : sumS [a] = a.size + 1 := by rw [sumS_cons]; rfl
  have s4 : sumS [b] = b.size + 1 := by rw [sumS_cons]; rfl
  obtain ⟨K2, g2⟩ := ref05_Texts (itemsL [a, b]) (by have := itemsL_length [a, b]; omega)
  obtain ⟨K3, g3⟩ := ref05_Texts (codR [a, b]).1 (codR_length _ (by omega))
  obtain ⟨K4, g4⟩ := ref07_Items [a] (by omega)
  obtain ⟨K5, g5⟩ := ref07_Items [b] (by omega)
  dsimp only at g2 g3 g4 g5
  rw [itemsL_one] at g4 g5
  have hsz : (a ++ (⟨#[44]⟩ : ByteArray)).size + b.size ≤ 9223372036854775807 := by rw [ByteArray.size_append]; show a.size + 1 + b.size ≤ _; omega
  refine ⟨K1 + K2 + K3 + K4 + K5 + 3, ?_⟩
  rw [catchpitlaw07_ListJoins.f, g1 _ (by omega), Option.bind_some, if_pos rfl, if_neg h1, catchpitlaw07_ListJoins.j0, if_neg (by rw [decide_eq_false h2]; decide)]
  unfold list_Codings.f list_Items.f
  rw [if_pos (by omega), Option.bind_some, if_pos (by omega), if_pos hsz, show ((a ++ (⟨#[44]⟩ : ByteArray)) ++ b) = joined a b from rfl, if_pos (by omega), Option.bind_some, if_pos (by omega), Option.bind_some, if_pos (by omega), Option.bind_some, itemsL_joined, g2 _ (by omega), Option.bind_some, if_pos rfl, codR_joined, g3 _ (by omega), Option.bind_some, if_pos rfl, bne_self_eq_false, catchpitlaw07_ListJoins.j1, if_neg (by decide), g4 _ (by omega), Option.bind_some]
  by_cases ha0 : itemsP a = []
  · rw [ha0, if_pos (show (([] : List ByteArray).length : Int) = 0 from rfl), catchpitlaw07_ListJoins.j2, if_pos rfl]
  have ha1 : (itemsP a).length ≠ 0 := fun h => ha0 (List.length_eq_zero_iff.1 h)
  rw [if_neg (by omega), g5 _ (by omega), Option.bind_some]
  by_cases hb0 : itemsP b = []
  · rw [hb0, show (((([] : List ByteArray).length : Nat) : Int) == 0) = true from rfl, catchpitlaw07_ListJoins.j2, if_pos rfl]
  have hb1 : (itemsP b).length ≠ 0 := fun h => hb0 (List.length_eq_zero_iff.1 h)
  rw [show (((itemsP b).length : Int) == 0) = false by rw [beq_eq_false_iff_ne]; omega, catchpitlaw07_ListJoins.j2, if_neg (by decide)]
  unfold list_Length.f
  rw [if_pos (by omega), Option.bind_some, if_pos (by omega), if_pos hsz, show ((a ++ (⟨#[44]⟩ : ByteArray)) ++ b) = joined a b from rfl, if_pos (by omega), Option.bind_some, lenR_joined a b ha0 hb0, if_pos rfl]
  simp
end Go.Proofs.YtofegjgiocljlaaDoor.Pure
end
section
namespace Go.Proofs.YtofegjgiocljlaaDoorH
open Go.RowKit Go.ChangeShapes Go.WideShapes Go.ChangeAt
theorem two_of {α : Type} {l : List α} (h : l.length = 2) : ∃ a b, l = [a, b] := by
  match l, h with
  | [a, b], _ => exact ⟨a, b, rfl⟩
theorem three_of {α : Type} {l : List α} (h : l.length = 3) : ∃ a b c, l = [a, b, c] := by
  match l, h with
  | [a, b, c], _ => exact ⟨a, b, c, rfl⟩
theorem six_of {α : Type} {l : List α} (h : l.length = 6) : ∃ a b c d e f, l = [a, b, c, d, e, f] := by
  match l, h with
  | [a, b, c, d, e, f], _ => exact ⟨a, b, c, d, e, f, rfl⟩
theorem cells_of_one {W : World} {cs : List Value} {y : DataW Unit × List MemPlace} {m : Nat} {x0 : Int}
    (hd : DataW.trod (fun _ => ()) Tryd.prog W 0 (fun _ => true) false m 5 cs = some y) (hy : y.1 = .lit (.int .u8 x0)) : cs = [.int .u8 x0] := by
  obtain ⟨n, e1, e2, _⟩ := DataW.trod_int Tryd.underlying5 hd
  rw [e2] at hy
  simp only [DataW.lit.injEq, Lit.int.injEq, true_and] at hy
  rw [e1, hy]
theorem cells_of_pair {W : World} {cs : List Value} {y : DataW Unit × List MemPlace} {m : Nat} {x0 x1 : Int}
    (hd : DataW.trod (fun _ => ()) Tryd.prog W 0 (fun _ => true) false m 95 cs = some y) (hy : y.1 = .agg [.lit (.int .u8 x0), .lit (.int .u8 x1)]) :
    cs = [.int .u8 x0, .int .u8 x1] := by
  have c5 : Tryd.prog.cellsOf 5 = 1 := by kernel_rfl
  have c2 : Tryd.prog.cellsOf 95 = 2 := by kernel_rfl
  obtain ⟨xs, m, _, ex, hn, hl, hel⟩ := DataW.trod_array Tryd.underlying95 hd
  rw [c2] at hn
  obtain ⟨a, b, rfl⟩ := two_of hn
  obtain ⟨u, v, rfl⟩ := two_of hl
  · rw [ex] at hy
    simp only [List.map_cons, List.map_nil, DataW.agg.injEq, List.cons.injEq, and_true] at hy
    have h0 := hel 0 (by omega)
    have h1 := hel 1 (by omega)
    simp only [c5] at h0 h1
    have e0 := cells_of_one (y := u) (by simpa using h0) hy.1
    have e1 := cells_of_one (y := v) (by simpa using h1) hy.2
    simp at e0 e1
    rw [e0, e1]
theorem cells_of_pairs {W : World} {cs : List Value} {y : DataW Unit × List MemPlace} {m : Nat} {x0 x1 x2 x3 x4 x5 : Int}
    (hd : DataW.trod (fun _ => ()) Tryd.prog W 0 (fun _ => true) false m 96 cs = some y)
    (hy : y.1 = .agg [.agg [.lit (.int .u8 x0), .lit (.int .u8 x1)], .agg [.lit (.int .u8 x2), .lit (.int .u8 x3)], .agg [.lit (.int .u8 x4), .lit (.int .u8 x5)]]) :
    cs = [.int .u8 x0, .int .u8 x1, .int .u8 x2, .int .u8 x3, .int .u8 x4, .int .u8 x5] := by
  have c2 : Tryd.prog.cellsOf 95 = 2 := by kernel_rfl
  have c6 : Tryd.prog.cellsOf 96 = 6 := by kernel_rfl
  obtain ⟨xs, m, _, ex, hn, hl, hel⟩ := DataW.trod_array Tryd.underlying96 hd
  rw [c6] at hn
  obtain ⟨a, b, c, d, e, f, rfl⟩ := six_of hn
  obtain ⟨u, v, z, rfl⟩ := three_of hl
  · rw [ex] at hy
    simp only [List.map_cons, List.map_nil, DataW.agg.injEq, List.cons.injEq, and_true] at hy
    have h0 := hel 0 (by omega)
    have h1 := hel 1 (by omega)
    have h2 := hel 2 (by omega)
    simp only [c2] at h0 h1 h2
    have e0 := cells_of_pair (y := u) (by simpa using h0) hy.1
    have e1 := cells_of_pair (y := v) (by simpa using h1) hy.2.1
    have e2 := cells_of_pair (y := z) (by simpa using h2) hy.2.2
    simp at e0 e1 e2
    rw [e0.1, e0.2, e1.1, e1.2, e2.1, e2.2]
theorem tabOk_of_laid {W : World} {L : List (String × DataW Unit)} (h : laidMetH Tryd.prog L W) (hp : (L.all fun x => x.2.handleName?.isNone) = true)
    (hf : L.filter (fun x => x.1 == "catchpit/octet.ends") = [("catchpit/octet.ends", Go.Proofs.YtofegjgiocljlaaDoor.Rows.laid_catchpit_octet_ends)]) (hs : W.ShapedOpen Tryd.prog) : TabOk W := by
  rw [MakeChecks.laidMetH_plain _ _ _ hp] at h
  have h2 := laidMet.filter (fun x => x.1 == "catchpit/octet.ends") h
  rw [hf] at h2
  obtain ⟨ps, ⟨g, t, cs, fuel, p, q, hg, ht, hv, hd, _, _⟩, _, _⟩ := h2
  obtain rfl := Option.some.inj ((show Tryd.prog.globalNamed "catchpit/octet.ends" = some 0 by kernel_rfl).symm.trans hg)
  obtain rfl := Option.some.inj ((show (Tryd.prog.globals[0]?).map (·.type) = some 96 by kernel_rfl).symm.trans ht)
  have e := cells_of_pairs hd rfl
  have hc := World.var?_cell hg hv
  have at_ : ∀ j, cs[j]? = cs.toList[j]? := fun j => (Array.getElem?_toList ..).symm
  rw [e] at at_
  exact ⟨(hc 0).trans (at_ 0), (hc 1).trans (at_ 1), (hc 2).trans (at_ 2), (hc 3).trans (at_ 3), (hc 4).trans (at_ 4), (hc 5).trans (at_ 5), MxOk.of_shaped hs⟩
end Go.Proofs.YtofegjgiocljlaaDoorH
end
section
namespace Go.Proofs.YtofegjgiocljlaaDoorH
open Go.RowKit Go.ChangeShapes Go.WideShapes Go.ChangeAt Go.Proofs.YtofegjgiocljlaaDoorW.PrintWords
def Light {H : Type} (P : Program) (t : TypeId) (d : DataW H) : Prop := ∀ x ∈ DataW.weights P t d, x ≤ reachBytes
structure Opens (P : Program) {α : Type} (d : Kd α) (t : TypeId) (G : α → Prop) : Prop where
  cells : P.cellsOf t = d.sz
  open_ : ∀ {H : Type} {enc : TypeId × Value → H} {W : World} {fuel : Nat} {cs : List Value} {x : DataW H × List MemPlace},
    DataW.trod enc P W 0 (fun _ => true) true fuel t cs = some x → Light P t x.1 → ∃ y, d.K W y cs ∧ G y
theorem Opens.int {P : Program} {t : TypeId} {k : IntKind} (hu : P.underlying t = some (.int k)) (hc : P.cellsOf t = 1) : Opens P (Kd.int k) t (fun n => (Lit.int k n).wf = true) := by
  refine ⟨hc, fun h _ => ?_⟩
  obtain ⟨n, e1, e2, wf⟩ := DataW.trod_int hu h
  exact ⟨n, e1, wf⟩
theorem Opens.bool {P : Program} {t : TypeId} (hu : P.underlying t = some .bool) (hc : P.cellsOf t = 1) : Opens P Kd.bool t (fun _ => True) := by
  refine ⟨hc, fun {_ _ _ fuel cs _} h _ => ?_⟩
  cases fuel with
  | zero => simp [DataW.trod] at h
  | succ m =>
    unfold DataW.trod at h
    rw [hu] at h
    match cs, h with
    | [.bool b], _ => exact ⟨b, rfl, trivial⟩
theorem Opens.string {P : Program} {t : TypeId} (hu : P.underlying t = some .string) (hc : P.cellsOf t = 1) : Opens P Kd.string t (fun s => s.size ≤ 140737488351232) := by
  refine ⟨hc, fun h hl => ?_⟩
  obtain ⟨s, e1, e2, _⟩ := DataW.trod_string hu h
  refine ⟨s, e1, ?_⟩
  subst e2
  have := hl s.data.toList.length (by simp [DataW.weights])
  rw [data_length] at this
  exact this
theorem weightsAll_mem {H : Type} (P : Program) (e : TypeId) : ∀ (l : List (DataW H)) (d : DataW H), d ∈ l → ∀ x ∈ DataW.weights P e d, x ∈ DataW.weightsAll P e l
  | [], d, h, _, _ => by cases h
  | a :: l, d, h, x, hx => by
    rw [DataW.weightsAll]
    rcases List.mem_cons.1 h with rfl | h
    · exact List.mem_append_left _ hx
    · exact List.mem_append_right _ (weightsAll_mem P e l d h x hx)
theorem list_of {α : Type} {p : Nat → α → Prop} : ∀ n : Nat, (∀ i, i < n → ∃ y, p i y) → ∃ l : List α, l.length = n ∧ ∀ i y, l[i]? = some y → p i y
  | 0, _ => ⟨[], rfl, fun i y h => by simp at h⟩
  | n + 1, h => by
    obtain ⟨l, hl, hp⟩ := list_of n (fun i hi => h i (by omega))
    obtain ⟨y, hy⟩ := h n (by omega)
    refine ⟨l ++ [y], by simp [hl], fun i z hz => ?_⟩
    rcases Nat.lt_or_ge i n with hi | hi
    · rw [List.getElem?_append_left (by omega)] at hz
      exact hp i z hz
    · rw [List.getElem?_append_right (by omega), hl] at hz
      rcases Nat.eq_zero_or_pos (i - n) with h0 | h0
      · rw [h0] at hz
        obtain rfl : i = n := by omega
        obtain rfl : y = z := by simpa using hz
        exact hy
      · rw [List.getElem?_eq_none (by simp; omega)] at hz
        cases hz
theorem add_add (a : Addr) (i j : Nat) : (a.add i).add j = a.add (i + j) := by
  unfold Addr.add
  by_cases h1 : i = 0
  · subst h1; simp
  · by_cases h2 : j = 0
    · subst h2; simp [h1]
    · simp [h1, h2, Nat.add_assoc]
theorem cells_at {W : World} {base : Nat} {a : Addr} {n : Nat} {cs : List Value} (h : W.cells? base a n = some cs) : cs.length = n ∧ ∀ (i : Nat) u, cs[i]? = some u → W.cell? (a.add i) = some u := by
  obtain ⟨_, hn, hc⟩ := World.cells?_some h
  refine ⟨hn, fun i u hu => ?_⟩
  have hi : i < n := by
    rcases Nat.lt_or_ge i n with hi | hi
    · exact hi
    · rw [List.getElem?_eq_none (by omega)] at hu; cases hu
  rw [hc i hi, hu]
theorem Opens.slice {P : Program} {α : Type} {d : Kd α} {t e : TypeId} {G : α → Prop} (h : Opens P d e G) (hu : P.underlying t = some (.slice e)) (hc : P.cellsOf t = 1) {B : Nat} (hB : P.bytesOf e = B) :
    Opens P (Kd.slice e d) t (fun l => l.length * B ≤ 140737488351232 ∧ ∀ y ∈ l, G y) := by
  refine ⟨hc, fun {H enc W fuel cs x} hx hl => ?_⟩
  rcases Deep.open_slice hu hx with ⟨rfl, rfl⟩ | ⟨a, len, cap, m, n, D, Pl, rfl, _, hle, hm, hmm, rfl, hel⟩
  · exact ⟨[], ⟨none, 0, rfl, Nat.le_refl _, rfl, by simp, fun h => by simp at h⟩, by simp, fun y hy => by cases hy⟩
  · simp only [if_true] at hmm
    subst hmm
    have hw : (len + (m - len)) * B ≤ 140737488351232 := by
      have := hl ((len + (m - len)) * B) (by
        unfold DataW.weights
        simp only [hu, hB]
        simp)
      exact this
    have hget : ∀ i, i < len → ∃ y, (∃ c, c.length = d.sz ∧ d.K W y c ∧ ∀ j u, c[j]? = some u → W.cell? (a.add (i * d.sz + j)) = some u) ∧ G y := by
      intro i hi
      obtain ⟨cs', h1, h2⟩ := hel i (by omega)
      obtain ⟨y, hy, hg⟩ := h.open_ h2 (fun x hx => hl x (by
        unfold DataW.weights
        simp only [hu]
        refine List.mem_cons_of_mem _ (List.mem_append_left _ (weightsAll_mem P e _ (D i) ?_ x hx))
        exact List.mem_map.2 ⟨i, List.mem_range.2 hi, rfl⟩))
      obtain ⟨hn, hcell⟩ := cells_at h1
      refine ⟨y, ⟨cs', by rw [hn, h.cells], hy, fun j u hj => ?_⟩, hg⟩
      have := hcell j u hj
      rw [add_add, h.cells] at this
      exact this
    obtain ⟨l, hll, hat⟩ := list_of len hget
    refine ⟨l, ⟨some a, m, by rw [hll], by omega, rfl, by rw [hll]; unfold maxLen at hm; omega, fun _ => ⟨a, rfl, fun j p hj => (hat j p hj).1⟩⟩, ?_, fun y hy => ?_⟩
    · rw [hll]
      exact Nat.le_trans (Nat.mul_le_mul_right _ (by omega)) hw
    · obtain ⟨i, hi, rfl⟩ := List.mem_iff_getElem.1 hy
      exact (hat i _ (List.getElem?_eq_getElem hi)).2
end Go.Proofs.YtofegjgiocljlaaDoorH
end
section
namespace Go.Proofs.YtofegjgiocljlaaDoorH
open Go
variable {H : Type} {enc : TypeId × Value → H}
theorem returns_and_shaped {a : Assume} {C : Checked} {os : Os} {f : FuncId} {fn : Func} {s : ChangeSpec} {conds : List PathCond} {apart fresh handsOn again : Bool} {X : World → Array Value → Prop}
    (hX : ∀ (w w' : World) (args : Array Value), w.heap = w'.heap → X w args → X w' args)
    (own : ownKnob C.prog.godebug = none) (started : os.Started) (noInit : C.prog.inits.idxOf? f = none) (hfn : C.prog.funcs[f]? = some fn)
    (witness : ∃ (w : World) (tape : Tape) (i : Input), w.os = os ∧ (w.forCall tape i).Shaped C.prog ∧ i.vars = [] ∧ Input.okWide C.prog (w.forCall tape i) .any w.heap.size f i ∧
      ((s.pre enc C.prog fn conds apart (w.forCall tape i).memory i.args ∧ X (w.forCall tape i).memory i.args) ∧ sizedMet enc C.prog fn (OpenSpec.ofChange s) apart (w.forCall tape i).memory i.args) ∧ a.holds C.prog (lone (Frame.enter C.prog f i.args .normal) [] (w.forCall tape i)))
    (contract : ∀ (W : World) (base : Nat) (args : Array Value) (ds gs : List (DataW H)) (before : List MemPlace),
      (∀ (j : Nat) t v, fn.params[j]? = some t → args[j]? = some v → Value.okWide C.prog W .any base t v) →
      DataW.Whole enc C.prog fn.params.toList s.vars apart W args.toList ds gs before →
      conds.all (PathCond.test C.prog ⟨fn.params.toList, ds, s.plain.varTypes C.prog, gs⟩) = true →
      (DataW.weightsEach C.prog (fn.params.toList ++ s.plain.varTypes C.prog) (ds ++ gs)).all (· ≤ reachBytes) = true → X W args →
      W.ShapedOpen C.prog →
      a.holds C.prog (lone (Frame.enter C.prog f args .normal) [] W) →
      Calls C.prog f args W fun e W' => ∃ v, e = .returned v ∧ s.post enc C.prog fn apart fresh handsOn again W args v W') :
    ReturnsInHanded a C os f .any (fun w args => (s.pre enc C.prog fn conds apart w args ∧ X w args) ∧ sizedMet enc C.prog fn (OpenSpec.ofChange s) apart w args) (s.post enc C.prog fn apart fresh handsOn again) := by
  refine returnsInHanded_of_calls own started noInit witness ?_
  intro w tape i _ hsh _ hok hpre hholds
  obtain ⟨_, _, _, fn', hfn', _, _, _, _, hval⟩ := hok
  have e : fn' = fn := Option.some.inj (hfn'.symm.trans hfn)
  subst e
  obtain ⟨⟨⟨ds, gs, before, hw, hc⟩, hx⟩, hz⟩ := hpre
  have hw' := DataW.Whole.of_heap (w' := w.forCall tape i) (by rfl) hw
  refine (contract (w.forCall tape i) w.heap.size i.args ds gs before hval hw' hc (hz.weights hw) (hX _ _ _ (by rfl) hx) hsh hholds).mono fun e W' ⟨v, he, hp⟩ => ?_
  subst he
  exact ChangeSpec.post_blind hp
end Go.Proofs.YtofegjgiocljlaaDoorH
end
