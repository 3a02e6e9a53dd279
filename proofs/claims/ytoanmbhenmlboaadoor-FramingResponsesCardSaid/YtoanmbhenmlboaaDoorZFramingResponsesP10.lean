import Derived.Test.YtoanmbhenmlboaaDoorZFramingResponsesP1
import Derived.Test.YtoanmbhenmlboaaDoorZFramingResponsesP8
import Derived.Test.YtoanmbhenmlboaaDoorZFramingResponsesP6
import Derived.Test.YtoanmbhenmlboaaDoorZFramingResponsesP9
import Derived.Test.YtoanmbhenmlboaaDoorZFramingResponsesP4
import Derived.Test.YtoanmbhenmlboaaDoorZFramingResponsesP2
import Derived.Test.YtoanmbhenmlboaaDoorZFramingResponsesP7
import Derived.Test.YtoanmbhenmlboaaDoorZFramingResponsesP5
import Derived.Test.YtoanmbhenmlboaaDoorZFramingResponsesP3
import Derived.Test.YtoanmbhenmlboaaDoorRows
import Derived.LaidSub
import Derived.MakeChecks
import Derived.ProofKit
import Derived.OpenShut
import Derived.LaidMore
import Derived.Deep.Slices
import Derived.SizedLaws
import Derived.HandedShaped
import Derived.Handed
section
namespace Go.Proofs.YtoanmbhenmlboaaDoorH
open Go.RowKit Go.Proofs.YtoanmbhenmlboaaDoorW.PrintWords Go.Proofs.YtoanmbhenmlboaaDoorW.PrintLast Go.Proofs.YtoanmbhenmlboaaDoorW.PrintMore Go.Proofs.YtoanmbhenmlboaaDoor.Pr
theorem ref02_token (k : Nat) (c : Int) (h0 : 0 ≤ c) (h1 : c ≤ 255) : catchpitref02_token.f (k + 1) c = some (tokI c) := by
  have e : catchpitref02_token.f (k + 1) c = catchpitref02_token.f 1 c := by
    unfold catchpitref02_token.f
    simp only [catchpitref02_token.j0]
  rw [e]
  obtain ⟨n, rfl⟩ := Int.eq_ofNat_of_zero_le h0
  have : ∀ n : Fin 256, catchpitref02_token.f 1 (n.val : Int) = some (tokI (n.val : Int)) := by decide +kernel
  exact this ⟨n, by omega⟩
theorem ref02_blank (c : Int) : catchpitref02_blank.f c = some (blankI c) := by
  unfold catchpitref02_blank.f blankI
  by_cases h : c = 32
  · rw [if_pos h]; subst h; rfl
  · rw [if_neg h, beq_eq_false_iff_ne.2 h, Bool.false_or]
theorem ref02_Token_l0 (s : ByteArray) (hs : s.size ≤ 140737488355328) (d : Nat) : ∀ (k i : Nat), i ≤ s.size → s.size - i = d → d + 1 < k →
    catchpitref02_Token.l0 k s (i : Int) = some (allFrom tokI s i && decide (0 < s.size)) := by
  induction d with
  | zero =>
    intro k i h1 hd hk
    obtain ⟨k, rfl⟩ : ∃ m, k = m + 1 := ⟨k - 1, by omega⟩
    simp only [catchpitref02_Token.l0]
    rw [if_neg (by omega), allFrom_end _ _ _ (by omega), Bool.true_and]
    congr 1
    rw [decide_eq_decide]
    omega
  | succ d ih =>
    intro k i h1 hd hk
    obtain ⟨k, rfl⟩ : ∃ m, k = m + 2 := ⟨k - 2, by omega⟩
    have hb := bt_range s i
    rw [catchpitref02_Token.l0, if_pos (by omega), if_pos (by omega), ref02_token k _ hb.1 hb.2, Option.bind_some, allFrom_step tokI s i (by omega)]
    cases hp : tokI (bt s i) with
    | true =>
      rw [if_pos rfl, wrap_up (by omega) (show (i : Int) < (s.size : Int) by omega) hs, Bool.true_and]
      exact ih (k + 1) (i + 1) (by omega) (by omega) (by omega)
    | false => rfl
theorem ref02_Token (s : ByteArray) (hs : s.size ≤ 140737488355328) : Ev (fun k => catchpitref02_Token.f k s) (tokB s) := by
  refine ⟨s.size + 2, fun k hk => ?_⟩
  show catchpitref02_Token.l0 k s 0 = _
  have := ref02_Token_l0 s hs s.size k 0 (by omega) (by omega) (by omega)
  rw [show ((0 : Nat) : Int) = 0 from rfl] at this
  rw [this, allFrom_zero]
  unfold tokB
  rw [isEmpty_size, Bool.and_comm]
  congr 2
  rw [← decide_not, decide_eq_decide]
  omega
theorem mk_data (s : ByteArray) : (⟨s.data.toList.toArray⟩ : ByteArray) = s := bytes_ext (by simp)
theorem ref02_Trim_l1 (n : Nat) : ∀ (s : ByteArray) (k : Nat), s.size = n → n ≤ 140737488355328 → n < k →
    catchpitref02_Trim.l1 k s = some ⟨(rtrim blankU s.data.toList).toArray⟩ := by
  induction n with
  | zero =>
    intro s k hs hn hk
    obtain ⟨k, rfl⟩ : ∃ m, k = m + 1 := ⟨k - 1, by omega⟩
    rw [catchpitref02_Trim.l1, if_neg (by omega)]
    have hl : s.data.toList = [] := by rw [size_eq_length] at hs; exact List.length_eq_zero_iff.1 hs
    congr 1
    apply bytes_ext
    rw [hl]; rfl
  | succ n ih =>
    intro s k hs hn hk
    obtain ⟨k, rfl⟩ : ∃ m, k = m + 1 := ⟨k - 1, by omega⟩
    obtain ⟨t, c, hl, hb⟩ := last_of s (by omega)
    rw [catchpitref02_Trim.l1, if_pos (by omega), wrap_down (by omega) (by omega), if_pos (by omega), if_pos (by omega), ref02_blank, Option.bind_some, hb, blankU_int]
    rw [hl, rtrim_snoc]
    cases hp : blankU c with
    | true =>
      rw [if_pos rfl, if_pos (by omega), if_pos rfl, show ((s.size : Int) - 1).toNat = s.size - 1 by omega]
      have he : (s.extract 0 (s.size - 1)).data.toList = t := by
        rw [extract_to, hl, size_eq_length, hl]
        simp
      rw [ih _ k (by rw [size_eq_length, he]; have := size_eq_length s; rw [hl] at this; simp at this; omega) (by omega) (by omega), he]
    | false =>
      rw [if_neg (by simp), if_neg (by simp), ← hl, mk_data]
theorem ref02_Trim_l0 (n : Nat) : ∀ (s : ByteArray) (k : Nat), s.size = n → n ≤ 140737488355328 → n + n + 2 < k →
    catchpitref02_Trim.l0 k s = some ⟨(rtrim blankU (s.data.toList.dropWhile blankU)).toArray⟩ := by
  induction n with
  | zero =>
    intro s k hs hn hk
    obtain ⟨k, rfl⟩ : ∃ m, k = m + 2 := ⟨k - 2, by omega⟩
    rw [catchpitref02_Trim.l0, if_neg (by omega), catchpitref02_Trim.j1, ref02_Trim_l1 0 s k hs (by omega) (by omega)]
    have hl : s.data.toList = [] := by rw [size_eq_length] at hs; exact List.length_eq_zero_iff.1 hs
    rw [hl]; rfl
  | succ n ih =>
    intro s k hs hn hk
    obtain ⟨k, rfl⟩ : ∃ m, k = m + 2 := ⟨k - 2, by omega⟩
    obtain ⟨c, t, hl, hb⟩ := first_of s (by omega)
    rw [catchpitref02_Trim.l0, if_pos (by omega), if_pos (by omega), ref02_blank, Option.bind_some, hb, blankU_int, hl]
    cases hp : blankU c with
    | true =>
      rw [if_pos rfl, if_pos (by omega), List.dropWhile_cons_of_pos hp]
      have he : (s.extract 1 s.size).data.toList = t := by rw [extract_from, hl]; rfl
      rw [ih _ (k + 1) (by rw [size_eq_length, he]; have := size_eq_length s; rw [hl] at this; simp at this; omega) (by omega) (by omega), he]
    | false =>
      rw [if_neg (by simp), catchpitref02_Trim.j1, ref02_Trim_l1 (n + 1) s k hs (by omega) (by omega), List.dropWhile_cons_of_neg (by simp [hp]), hl]
theorem ref02_Trim (s : ByteArray) (hs : s.size ≤ 140737488355328) : Ev (fun k => catchpitref02_Trim.f k s) (trimS s) := by
  refine ⟨s.size + s.size + 3, fun k hk => ?_⟩
  show catchpitref02_Trim.l0 k s = _
  rw [ref02_Trim_l0 s.size s k rfl hs (by omega)]
  unfold trimS
  rw [trimL_eq']
theorem ref02_Small_l0 (s : ByteArray) (hs : s.size ≤ 140737488355327) (d : Nat) : ∀ (k i : Nat), i ≤ s.size → s.size - i = d → d < k →
    catchpitref02_Small.l0 k s ((smallL s).take i) (i : Int) = some (smallS s) := by
  induction d with
  | zero =>
    intro k i h1 hd hk
    obtain ⟨k, rfl⟩ : ∃ m, k = m + 1 := ⟨k - 1, by omega⟩
    rw [catchpitref02_Small.l0, if_neg (by omega), List.take_of_length_le (by rw [smallL_length]; omega)]
    rfl
  | succ d ih =>
    intro k i h1 hd hk
    obtain ⟨k, rfl⟩ : ∃ m, k = m + 1 := ⟨k - 1, by omega⟩
    have hb := bt_range s i
    have hlen : ((smallL s).take i).length < 140737488355328 := by rw [List.length_take, smallL_length]; omega
    have hi : i < (smallL s).length := by rw [smallL_length]; omega
    have hst : (smallL s).take (i + 1) = (smallL s).take i ++ [smallI (bt s i)] := by
      rw [List.take_succ_eq_append_getElem hi, ← smallL_at s i (by omega), List.getD_eq_getElem?_getD, List.getElem?_eq_getElem hi]
      rfl
    have hih := ih k (i + 1) (by omega) (by omega) (by omega)
    rw [hst] at hih
    rw [catchpitref02_Small.l0, if_pos (by omega), if_pos (by omega), wrap_up (by omega) (show (i : Int) < (s.size : Int) by omega) (by omega)]
    by_cases h65 : bt s i ≥ 65
    · rw [if_pos h65]
      by_cases h90 : bt s i ≤ 90
      · rw [if_pos h90, if_pos hlen, show (bt s i + 32) % 256 = smallI (bt s i) by unfold smallI; rw [if_pos ⟨h65, h90⟩]; omega]
        exact hih
      · rw [if_neg h90, if_pos hlen, show bt s i = smallI (bt s i) by unfold smallI; rw [if_neg (by omega)]] 
        exact hih
    · rw [if_neg h65, if_pos hlen, show bt s i = smallI (bt s i) by unfold smallI; rw [if_neg (by omega)]]
      exact hih
theorem ref02_Small (s : ByteArray) (hs : s.size ≤ 140737488355327) : Ev (fun k => catchpitref02_Small.f k s) (smallS s) := by
  refine ⟨s.size + 1, fun k hk => ?_⟩
  have := ref02_Small_l0 s hs s.size k 0 (by omega) (by omega) (by omega)
  exact this
end Go.Proofs.YtoanmbhenmlboaaDoorH
end
section
namespace Go.Proofs.YtoanmbhenmlboaaDoorH
open Go.RowKit Go.Proofs.YtoanmbhenmlboaaDoorW.PrintWords Go.Proofs.YtoanmbhenmlboaaDoorW.PrintLast Go.Proofs.YtoanmbhenmlboaaDoorW.PrintMore Go.Proofs.YtoanmbhenmlboaaDoor.Pr
abbrev Fld := S71
def Small1 (l : List Fld) : Prop := ∀ y ∈ l, y.f0.size ≤ 140737488351232 ∧ y.f1.size ≤ 140737488351232
def sumF (l : List Fld) : Nat := (l.map fun x => x.f0.size + x.f1.size + 1).sum
theorem sumF_cons (x : Fld) (l : List Fld) : sumF (x :: l) = (x.f0.size + x.f1.size + 1) + sumF l := by simp [sumF]
theorem sumF_length : ∀ l : List Fld, l.length ≤ sumF l
  | [] => Nat.le_refl _
  | x :: l => by
    have := sumF_length l
    rw [sumF_cons, List.length_cons]
    omega
theorem rd_nat (l : List Fld) (i : Nat) : rd_T71 l (i : Int) = l.getD i z71 := by
  unfold rd_T71
  rw [Int.toNat_natCast]
def bigF : Nat := 600000000000000
theorem ref05_Great_l0 (l : List Fld) (hl : Small1 l) (hn : l.length ≤ 140737488351232) (d : Nat) : ∀ (i n k : Nat), i ≤ l.length → l.length - i = d → d < k → n ≤ bigF →
    catchpitref05_Great.l0 k l (n : Int) (i : Int) = some (decide (2000 < n + sumF (l.drop i))) := by
  induction d with
  | zero =>
    intro i n k h1 h2 h3 h4
    obtain ⟨k, rfl⟩ : ∃ m, k = m + 1 := ⟨k - 1, by omega⟩
    rw [catchpitref05_Great.l0, if_neg (by omega), List.drop_eq_nil_of_le (by omega)]
    congr 1
    rw [decide_eq_decide]
    show _ ↔ 2000 < n + 0
    omega
  | succ d ih =>
    intro i n k h1 h2 h3 h4
    obtain ⟨k, rfl⟩ : ∃ m, k = m + 1 := ⟨k - 1, by omega⟩
    have hi : i < l.length := by omega
    rw [catchpitref05_Great.l0, if_pos (by omega), drop_cons l z71 i hi, sumF_cons, rd_nat]
    have hx := hl _ (mem_getD l z71 i hi)
    generalize l.getD i z71 = x at *
    by_cases h : n ≤ 2000
    · rw [if_pos (by omega), if_pos (by omega)]
      have a1 : i + 1 ≤ l.length := hi
      have a2 : l.length - (i + 1) = d := by omega
      have a3 : d < k := by omega
      have a4 : n + x.f0.size + x.f1.size + 1 ≤ bigF := by unfold bigF at *; omega
      have b1 : n + x.f0.size < 4611686018427387904 := by omega
      have b2 : n + x.f0.size + x.f1.size < 4611686018427387904 := by omega
      have b4 : i < 4611686018427387904 := by omega
      have e1 := wrapN n x.f0.size b1
      have e2 := wrapN (n + x.f0.size) x.f1.size b2
      have e3 := wrapS (n + x.f0.size + x.f1.size) b2
      have e4 := wrapS i b4
      have hh := ih (i + 1) (n + x.f0.size + x.f1.size + 1) k a1 a2 a3 a4
      rw [e1, e2, e3, e4, hh]
      clear e1 e2 e3 e4 hh ih
      congr 1
      rw [decide_eq_decide]
      omega
    · rw [if_neg (by omega)]
      congr 1
      rw [decide_eq_decide]
      omega
theorem ref05_Great (l : List Fld) (hl : Small1 l) (hn : l.length ≤ 140737488351232) : Ev (fun k => catchpitref05_Great.f k l) (decide (2000 < sumF l)) := by
  refine ⟨l.length + 1, fun k hk => ?_⟩
  have := ref05_Great_l0 l hl hn l.length 0 0 k (Nat.zero_le _) rfl (by omega) (Nat.zero_le _)
  rw [Nat.zero_add, List.drop_zero] at this
  exact this
theorem ref05_Is (x : Fld) (n : ByteArray) (hx : x.f0.size ≤ 140737488351232) (hn : n.size ≤ 140737488351232) : Ev (fun k => catchpitref05_Is.f k x.f0 x.f1 n) (isB x n) := by
  obtain ⟨K1, h1⟩ := ref02_Small x.f0 (by omega)
  obtain ⟨K2, h2⟩ := ref02_Small n (by omega)
  refine ⟨K1 + K2, fun k hk => ?_⟩
  have h1 := h1 k (by omega)
  have h2 := h2 k (by omega)
  simp only at h1 h2
  show catchpitref05_Is.f k x.f0 x.f1 n = _
  rw [catchpitref05_Is.f, h1, Option.bind_some, h2, Option.bind_some, beq_toList]
  rfl
theorem getL_step (l : List Fld) (n : ByteArray) (i : Nat) (h : i < l.length) : getL (l.take (i + 1)) n = getL (l.take i) n ++ (if isB (l.getD i z71) n then [(l.getD i z71).f1] else []) := by
  rw [take_one l z71 i h]
  unfold getL
  rw [List.filter_append, List.map_append]
  generalize l.getD i z71 = y
  congr 1
  cases hb : isB y n with
  | true => rw [List.filter_cons_of_pos (p := fun x => isB x n) hb]; rfl
  | false => rw [List.filter_cons_of_neg (p := fun x => isB x n) (by simp [hb])]; rfl
theorem getL_length (l : List Fld) (n : ByteArray) : (getL l n).length ≤ l.length := by
  unfold getL
  rw [List.length_map]
  exact List.length_filter_le _ _
theorem ref05_Get (l : List Fld) (n : ByteArray) (hl : Small1 l) (hn : n.size ≤ 140737488351232) (hc : l.length ≤ 100000) : Ev (fun k => catchpitref05_Get.f k l n) (getL l n) := by
  obtain ⟨K, hK⟩ := ev_all (fun k (x : Fld) => catchpitref05_Is.f k x.f0 x.f1 n) (fun x => isB x n) l (fun x hx => ref05_Is x n (hl x hx).1 hn)
  have hl0 : ∀ d i k : Nat, i ≤ l.length → l.length - i = d → K + d < k → catchpitref05_Get.l0 k l n (getL (l.take i) n) (i : Int) = some (getL l n) := by
    intro d
    induction d with
    | zero =>
      intro i k h1 h2 h3
      obtain ⟨k, rfl⟩ : ∃ m, k = m + 1 := ⟨k - 1, by omega⟩
      rw [catchpitref05_Get.l0, if_neg (by omega), List.take_of_length_le (by omega)]
    | succ d ih =>
      intro i k h1 h2 h3
      obtain ⟨k, rfl⟩ : ∃ m, k = m + 1 := ⟨k - 1, by omega⟩
      have hi : i < l.length := by omega
      have hlen := getL_length (l.take i) n
      have hst := getL_step l n i hi
      have hi2 := ih (i + 1) k (by omega) (by omega) (by omega)
      have hq := hK k (by omega) _ (mem_getD l z71 i hi)
      rw [List.length_take] at hlen
      rw [catchpitref05_Get.l0, if_pos (by omega), if_pos (by omega), rd_nat, hq, Option.bind_some, show wrap64 ((i : Int) + 1) = ((i + 1 : Nat) : Int) by unfold wrap64; omega]
      rw [hst] at hi2
      cases hb : isB (l.getD i z71) n with
      | true =>
        rw [hb, if_pos rfl] at hi2
        rw [if_pos rfl, if_pos (by omega)]
        exact hi2
      | false =>
        rw [hb, if_neg (by simp), List.append_nil] at hi2
        rw [if_neg (by simp)]
        exact hi2
  refine ⟨K + l.length + 1, fun k hk => ?_⟩
  have := hl0 l.length 0 k (by omega) (by omega) (by omega)
  exact this
theorem field_Get_eq (l : List Fld) (n : ByteArray) (hl : Small1 l) (hn : n.size ≤ 140737488351232) (hc : l.length ≤ 100000) : field_Get.f l n = some (getL l n) := by
  unfold field_Get.f
  have hf : fitF l = true := List.all_eq_true.2 fun x hx => decide_eq_true (by have := (hl x hx).1; omega)
  rw [hf, decide_eq_true (by omega), decide_eq_true (by omega)]
  rfl
end Go.Proofs.YtoanmbhenmlboaaDoorH
end
section
namespace Go.Proofs.YtoanmbhenmlboaaDoorH
open Go.RowKit Go.Proofs.YtoanmbhenmlboaaDoorW.PrintWords Go.Proofs.YtoanmbhenmlboaaDoorW.PrintLast Go.Proofs.YtoanmbhenmlboaaDoorW.PrintMore Go.Proofs.YtoanmbhenmlboaaDoor.Pr
theorem ev_succ {α : Type} {g : Nat → Option α} {r : α} (h : Ev (fun k => g (k + 1)) r) : Ev g r := by
  obtain ⟨K, hK⟩ := h
  refine ⟨K + 1, fun k hk => ?_⟩
  obtain ⟨k, rfl⟩ : ∃ m, k = m + 1 := ⟨k - 1, by omega⟩
  exact hK k (by omega)
theorem ev_bind {α β : Type} {g : Nat → Option α} {h : Nat → α → Option β} {x : α} {r : β} (h1 : Ev g x) (h2 : Ev (fun k => h k x) r) : Ev (fun k => (g k).bind (h k)) r := by
  obtain ⟨K1, h1⟩ := h1
  obtain ⟨K2, h2⟩ := h2
  exact ⟨K1 + K2, fun k hk => by show (g k).bind (h k) = _; rw [h1 k (by omega), Option.bind_some]; exact h2 k (by omega)⟩
theorem ev_as {α : Type} {g g' : Nat → Option α} {r : α} (h : Ev g r) (e : ∀ k, g' k = g k) : Ev g' r := by
  obtain ⟨K, hK⟩ := h
  exact ⟨K, fun k hk => (e k).trans (hK k hk)⟩
theorem ev_some {α : Type} (r : α) : Ev (fun _ => some r) r := ⟨0, fun _ _ => rfl⟩
def mkB (l : List UInt8) : ByteArray := ⟨l.toArray⟩
def partsC (c : UInt8) (s : ByteArray) : List ByteArray := (splitL c s.data.toList).map mkB
theorem partsB_eq (s : ByteArray) : partsB s = partsC 44 s := rfl
theorem splitL_no (c : UInt8) (p : List UInt8) (h : ∀ x ∈ p, x ≠ c) : splitL c p = [p] :=
  splitL_none c p (List.findIdx_eq_length.2 fun x hx => by simpa using h x hx)
theorem extract_mk (s : ByteArray) (a i : Nat) (p : List UInt8) (h1 : a ≤ i) (h2 : i ≤ s.size) (hp : s.data.toList.drop a = p ++ s.data.toList.drop i) : s.extract a i = mkB p := by
  apply bytes_ext
  rw [extract_list, hp]
  have hl : p.length = i - a := by
    have := congrArg List.length hp
    rw [List.length_append, List.length_drop, List.length_drop, data_length] at this
    omega
  show _ = p
  rw [← hl, List.take_left]
theorem ref07_cut_l0 (s : ByteArray) (c : UInt8) (hs : s.size ≤ 1000000000) : ∀ (d i a : Nat) (p : List UInt8) (acc : List ByteArray), a ≤ i → i ≤ s.size → s.size - i = d → acc.length ≤ i →
    s.data.toList.drop a = p ++ s.data.toList.drop i → (∀ x ∈ p, x ≠ c) →
    Ev (fun k => catchpitref07_cut.l0 k s ((c.toNat : Nat) : Int) acc (a : Int) (i : Int)) (acc ++ (splitL c (s.data.toList.drop a)).map mkB) := by
  intro d
  induction d with
  | zero =>
    intro i a p acc h1 h2 h3 h4 hp hc
    obtain rfl : i = s.size := by omega
    have he := extract_mk s a s.size p h1 (Nat.le_refl _) hp
    have hz : s.data.toList.drop s.size = [] := List.drop_eq_nil_of_le (by rw [data_length]; exact Nat.le_refl _)
    rw [hz, List.append_nil] at hp
    refine ev_succ (ev_succ ⟨0, fun k _ => ?_⟩)
    show catchpitref07_cut.l0 (k + 1 + 1) s _ acc _ _ = _
    rw [catchpitref07_cut.l0, if_pos (by omega), if_pos rfl, if_pos (by omega), if_pos (by omega), if_pos (by omega), show wrap64 ((s.size : Int) + 1) = ((s.size + 1 : Nat) : Int) by unfold wrap64; omega, catchpitref07_cut.l0, if_neg (by omega), Int.toNat_natCast, Int.toNat_natCast, he, hp, splitL_no c p hc]
    rfl
  | succ d ih =>
    intro i a p acc h1 h2 h3 h4 hp hc
    obtain ⟨b, hb, hbt⟩ := drop_byte s i (by omega)
    have hw : wrap64 ((i : Int) + 1) = ((i + 1 : Nat) : Int) := by unfold wrap64; omega
    by_cases hbc : b = c
    · subst hbc
      have he := extract_mk s a i p h1 (by omega) hp
      have key := ih (i + 1) (i + 1) [] (acc ++ [mkB p]) (Nat.le_refl _) (by omega) (by omega) (by rw [List.length_append, List.length_singleton]; omega) (by simp) (by simp)
      rw [show acc ++ (splitL b (s.data.toList.drop a)).map mkB = acc ++ [mkB p] ++ (splitL b (s.data.toList.drop (i + 1))).map mkB by
        rw [hp, hb, splitL_append, splitL_no b p hc]; simp]
      refine ev_succ (ev_as key fun k => ?_)
      rw [catchpitref07_cut.l0, if_pos (by omega), if_neg (by omega), if_pos (by omega), if_pos (by omega), if_pos hbt, if_pos (by omega), if_pos (by omega), if_pos (by omega), hw, Int.toNat_natCast, Int.toNat_natCast, he]
    · have key := ih (i + 1) a (p ++ [b]) acc (by omega) (by omega) (by omega) (by omega) (by rw [hp, hb]; simp) (fun x hx => by
        rcases List.mem_append.1 hx with h | h
        · exact hc x h
        · rw [List.mem_singleton.1 h]; exact hbc)
      refine ev_succ (ev_as key fun k => ?_)
      rw [catchpitref07_cut.l0, if_pos (by omega), if_neg (by omega), if_pos (by omega), if_pos (by omega), if_neg (fun h => hbc (by rw [hbt] at h; exact UInt8.toNat_inj.1 (by omega))), hw]
theorem ref07_cut (s : ByteArray) (c : UInt8) (hs : s.size ≤ 1000000000) : Ev (fun k => catchpitref07_cut.f k s ((c.toNat : Nat) : Int)) (partsC c s) := by
  have := ref07_cut_l0 s c hs s.size 0 0 [] [] (Nat.le_refl _) (Nat.zero_le _) rfl (Nat.zero_le _) rfl (by simp)
  exact this
theorem snds_map (i : Nat) (l : List ByteArray) : (l.map fun x => (i, x)).map (fun y => y.2) = l := by
  rw [List.map_map]
  exact List.map_id _
theorem itemsF_snds : ∀ (l : List ByteArray) (i : Nat), (itemsF i l).map (fun y => y.2) = l.flatMap itemsP
  | [], _ => rfl
  | v :: l, i => by rw [itemsF, List.map_append, snds_map, itemsF_snds l (i + 1), List.flatMap_cons]
theorem itemsL_flat (l : List ByteArray) : itemsL l = l.flatMap itemsP := itemsF_snds l 0
theorem itemsL_one (v : ByteArray) : itemsL [v] = itemsP v := by rw [itemsL_flat, List.flatMap_cons, List.flatMap_nil, List.append_nil]
theorem rdOf_nat (l : List ByteArray) (i : Nat) : rdOf ByteArray.empty l (i : Int) = l.getD i ByteArray.empty := by
  unfold rdOf
  rw [Int.toNat_natCast]
theorem partsC_size (c : UInt8) (s : ByteArray) : ∀ p ∈ partsC c s, p.size ≤ s.size := by
  intro p hp
  obtain ⟨l, hl, rfl⟩ := List.mem_map.1 hp
  rw [size_eq_length s]
  exact splitL_size _ _ _ hl
theorem partsC_length (c : UInt8) (s : ByteArray) : (partsC c s).length ≤ s.size + 1 := by
  unfold partsC
  rw [List.length_map, size_eq_length]
  exact splitL_count _ _
theorem sumS_drop (l : List ByteArray) (i : Nat) (h : i < l.length) : sumS (l.drop i) = (l.getD i ByteArray.empty).size + 1 + sumS (l.drop (i + 1)) := by
  rw [drop_cons l ByteArray.empty i h, sumS_cons]
theorem ref07_Items_l1 (xs : List ByteArray) (i : Nat) (ps : List ByteArray) (hps : ∀ p ∈ ps, p.size ≤ 1000000000) (r : List ByteArray) : ∀ (d j : Nat) (acc : List ByteArray), j ≤ ps.length → ps.length - j = d → acc.length + d ≤ 1000000000 → ps.length ≤ 1000000000 →
    Ev (fun k => catchpitref07_Items.l0 k xs (acc ++ (ps.drop j).flatMap partItem) (wrap64 ((i : Int) + 1))) r →
    Ev (fun k => catchpitref07_Items.l1 k xs acc (i : Int) ps (j : Int)) r := by
  intro d
  induction d with
  | zero =>
    intro j acc h1 h2 h3 h4 h
    rw [List.drop_eq_nil_of_le (by omega), List.flatMap_nil, List.append_nil] at h
    refine ev_succ (ev_as h fun k => ?_)
    rw [catchpitref07_Items.l1, if_neg (by omega)]
  | succ d ih =>
    intro j acc h1 h2 h3 h4 h
    have hj : j < ps.length := by omega
    have hw : wrap64 ((j : Int) + 1) = ((j + 1 : Nat) : Int) := by unfold wrap64; omega
    rw [drop_cons ps ByteArray.empty j hj, List.flatMap_cons, ← List.append_assoc] at h
    have hsz := hps _ (mem_getD ps ByteArray.empty j hj)
    have ht := ref02_Trim (ps.getD j ByteArray.empty) (by omega)
    unfold partItem at h
    by_cases hz : (trimS (ps.getD j ByteArray.empty)).size = 0
    · rw [if_pos hz, List.append_nil] at h
      have key := ih (j + 1) acc (by omega) (by omega) (by omega) h4 h
      refine ev_succ (ev_as (ev_bind (h := fun k t144 => (if (t144.size : Int) > 0 then (if acc.length < 8796093022208 then (catchpitref07_Items.l1 k xs (acc ++ [t144]) i ps (wrap64 ((j : Int) + 1))) else (none)) else (catchpitref07_Items.l1 k xs acc i ps (wrap64 ((j : Int) + 1))))) ht (ev_as key fun k => ?_)) fun k => ?_)
      · rw [if_neg (by omega), hw]
      · rw [catchpitref07_Items.l1, if_pos (by omega), if_pos (by omega), rdOf_nat]
    · rw [if_neg hz] at h
      have key := ih (j + 1) (acc ++ [trimS (ps.getD j ByteArray.empty)]) (by omega) (by omega) (by rw [List.length_append, List.length_singleton]; omega) h4 h
      refine ev_succ (ev_as (ev_bind (h := fun k t144 => (if (t144.size : Int) > 0 then (if acc.length < 8796093022208 then (catchpitref07_Items.l1 k xs (acc ++ [t144]) i ps (wrap64 ((j : Int) + 1))) else (none)) else (catchpitref07_Items.l1 k xs acc i ps (wrap64 ((j : Int) + 1))))) ht (ev_as key fun k => ?_)) fun k => ?_)
      · rw [if_pos (by omega), if_pos (by omega), hw]
      · rw [catchpitref07_Items.l1, if_pos (by omega), if_pos (by omega), rdOf_nat]
theorem ref07_Items_l0 (xs : List ByteArray) (hS : sumS xs ≤ 100000000) : ∀ (d i : Nat) (acc : List ByteArray), i ≤ xs.length → xs.length - i = d → acc.length + sumS (xs.drop i) ≤ 100000000 →
    Ev (fun k => catchpitref07_Items.l0 k xs acc (i : Int)) (acc ++ (xs.drop i).flatMap itemsP) := by
  have hlen := sumS_length xs
  intro d
  induction d with
  | zero =>
    intro i acc h1 h2 h3
    rw [List.drop_eq_nil_of_le (by omega), List.flatMap_nil, List.append_nil]
    refine ev_succ ⟨0, fun k _ => ?_⟩
    show catchpitref07_Items.l0 (k + 1) xs acc _ = _
    rw [catchpitref07_Items.l0, if_neg (by omega)]
  | succ d ih =>
    intro i acc h1 h2 h3
    have hi : i < xs.length := by omega
    have hw : wrap64 ((i : Int) + 1) = ((i + 1 : Nat) : Int) := by unfold wrap64; omega
    have hsz := sumS_at xs _ (mem_getD xs ByteArray.empty i hi)
    have hpl := itemsP_length (xs.getD i ByteArray.empty)
    have hpc := partsC_length 44 (xs.getD i ByteArray.empty)
    rw [sumS_drop xs i hi] at h3
    have key := ih (i + 1) (acc ++ itemsP (xs.getD i ByteArray.empty)) (by omega) (by omega) (by rw [List.length_append]; omega)
    rw [List.append_assoc, ← List.flatMap_cons, ← drop_cons xs ByteArray.empty i hi, itemsP_flat, ← hw] at key
    have h := ref07_Items_l1 xs i (partsB (xs.getD i ByteArray.empty)) (fun p hp => by have := partsC_size 44 _ p hp; omega) _ (partsB (xs.getD i ByteArray.empty)).length 0 acc (Nat.zero_le _) rfl (by rw [partsB_eq]; omega) (by rw [partsB_eq]; omega) key
    refine ev_succ (ev_as (ev_bind (h := fun k t140 => (catchpitref07_Items.l1 k xs acc i t140 0)) (ref07_cut (xs.getD i ByteArray.empty) 44 (by omega)) h) fun k => ?_)
    rw [catchpitref07_Items.l0, if_pos (by omega), if_pos (by omega), rdOf_nat]
    rfl
theorem ref07_Items (xs : List ByteArray) (hS : sumS xs ≤ 100000000) : Ev (fun k => catchpitref07_Items.f k xs) (itemsL xs) := by
  have := ref07_Items_l0 xs hS xs.length 0 [] (Nat.zero_le _) rfl (by simpa using hS)
  rw [itemsL_flat]
  exact this
theorem partsC_head (c : UInt8) (s : ByteArray) : ∃ r, partsC c s = cutL c s :: r := by
  have hc : cutL c s = mkB (Lib.cut s.data.toList [c]).1 := rfl
  have hx := index_at s.data.toList c
  by_cases h : s.data.toList.findIdx (· == c) < s.data.toList.length
  · refine ⟨(splitL c (s.data.toList.drop (s.data.toList.findIdx (· == c) + 1))).map mkB, ?_⟩
    unfold partsC
    rw [splitL_some c _ h, List.map_cons, hc]
    congr 2
    unfold Lib.cut
    rw [hx, if_pos h]
    simp
  · refine ⟨[], ?_⟩
    have hl : s.data.toList.findIdx (· == c) = s.data.toList.length := by have := List.findIdx_le_length (p := (· == c)) (xs := s.data.toList); omega
    unfold partsC
    rw [splitL_none c _ hl, hc]
    unfold Lib.cut
    rw [hx, if_neg h]
    rfl
theorem ref07_word (s : ByteArray) (hs : s.size ≤ 1000000000) : Ev (fun k => catchpitref07_word.f k s) (wordS s) := by
  obtain ⟨r, hr⟩ := partsC_head 59 s
  have h1 := ref07_cut s 59 hs
  have hz := cutL_size 59 s
  have h2 := ref02_Trim (cutL 59 s) (by omega)
  refine ev_as (ev_bind (h := fun k t150 => (if 0 < (t150.length : Int) then ((catchpitref02_Trim.f k (rdOf ByteArray.empty t150 0)).bind fun t154 => (some t154)) else (none))) h1 ?_) fun k => rfl
  rw [hr]
  refine ev_as (ev_bind (h := fun _ t => some t) h2 (ev_some _)) fun k => ?_
  rw [if_pos (by rw [List.length_cons]; omega)]
  rfl
end Go.Proofs.YtoanmbhenmlboaaDoorH
end
section
namespace Go.Proofs.YtoanmbhenmlboaaDoor.Pr
open Go.RowKit Go.Proofs.YtoanmbhenmlboaaDoorH Go.Proofs.YtoanmbhenmlboaaDoorW.PrintWords Go.Proofs.YtoanmbhenmlboaaDoorW.PrintLast Go.Proofs.YtoanmbhenmlboaaDoorW.PrintMore
attribute [local go_sem] max2_int min2_int max_two min_two max_three min_three max_four min_four   -- for this text's walks alone
set_option linter.unusedVariables false
set_option linter.unusedSimpArgs false
attribute [local go_sem high] eqA57
def catchpitlaw11_FramingPlain.j0 : Nat → Int → List (S71) → Bool → Option (Bool)
  | 0, _, _, _ => none
  | k + 1, x0, x1, x29 => if x29 = true then (some true) else ((catchpitref05_Without.f k x1 (([(⟨#[84, 114, 97, 110, 115, 102, 101, 114, 45, 69, 110, 99, 111, 100, 105, 110, 103]⟩ : ByteArray), (⟨#[67, 111, 110, 116, 101, 110, 116, 45, 76, 101, 110, 103, 116, 104]⟩ : ByteArray)] : List ByteArray))).bind fun t299 => ((framing_Request.f k t299).bind fun bt302 => ((framing_Response.f k (⟨#[71, 69, 84]⟩ : ByteArray) x0 t299).bind fun bt306 => (if bt302.2.2 = 0 then (if bt306.2.2 = 0 then (if (bt302.1 == 0 && (bt302.2.1 == 0)) = true then (some (bt306.1 == 3 && (bt306.2.1 == 0))) else (some false)) else (some false)) else (some false)))))
def catchpitlaw11_FramingPlain.f (k : Nat) (a0 : Int) (l1 : List (S71)) : Option (Bool) := (catchpitlaw11_wakes.f k).bind fun t294 => (if t294 = true then ((catchpitref05_Great.f k l1).bind fun t295 => (if t295 = true then (catchpitlaw11_FramingPlain.j0 k a0 l1 true) else (if a0 < 200 then (catchpitlaw11_FramingPlain.j0 k a0 l1 true) else (if a0 > 999 then (catchpitlaw11_FramingPlain.j0 k a0 l1 true) else (if a0 = 204 then (catchpitlaw11_FramingPlain.j0 k a0 l1 true) else (catchpitlaw11_FramingPlain.j0 k a0 l1 (a0 == 304))))))) else (some false))
theorem catchpitlaw11_FramingPlain.mono_l : ∀ k, (∀ y0 y1 y2, LeO (catchpitlaw11_FramingPlain.j0 k y0 y1 y2) (catchpitlaw11_FramingPlain.j0 (k + 1) y0 y1 y2))
  | 0 => fun _ _ _ r h => by simp [catchpitlaw11_FramingPlain.j0] at h
  | k + 1 => by
    have ih0 := catchpitlaw11_FramingPlain.mono_l k
    · intro y0 y1 y2
      unfold catchpitlaw11_FramingPlain.j0
      repeat' first
      | (with_reducible exact ih0 _ _ _)
      | (with_reducible exact catchpitlaw11_wakes.mono _)
      | (with_reducible exact catchpitref05_Great.mono _ _)
      | (with_reducible exact catchpitref05_Without.mono _ _ _)
      | (with_reducible exact framing_Request.mono _ _)
      | (with_reducible exact framing_Response.mono _ _ _ _)
      | (with_reducible exact LeO.refl _)
      | (with_reducible exact LeO.none _)
      | (with_reducible refine LeO.ite ?_ ?_)
      | (with_reducible refine LeO.bind ?_ (fun _ => ?_))
      | exact ih0 _ _ _
      | exact catchpitlaw11_wakes.mono _
      | exact catchpitref05_Great.mono _ _
      | exact catchpitref05_Without.mono _ _ _
      | exact framing_Request.mono _ _
      | exact framing_Response.mono _ _ _ _
      | exact LeO.none _
      | refine LeO.ite ?_ ?_
      | refine LeO.bind ?_ (fun _ => ?_)
theorem catchpitlaw11_FramingPlain.mono : ∀ a0 a1 k, LeO (catchpitlaw11_FramingPlain.f k a0 a1) (catchpitlaw11_FramingPlain.f (k + 1) a0 a1) := by
  intro a0 a1 k
  have ih0 := catchpitlaw11_FramingPlain.mono_l k
  unfold catchpitlaw11_FramingPlain.f
  repeat' first
      | (with_reducible exact ih0 _ _ _)
      | (with_reducible exact catchpitlaw11_wakes.mono _)
      | (with_reducible exact catchpitref05_Great.mono _ _)
      | (with_reducible exact catchpitref05_Without.mono _ _ _)
      | (with_reducible exact framing_Request.mono _ _)
      | (with_reducible exact framing_Response.mono _ _ _ _)
      | (with_reducible exact LeO.refl _)
      | (with_reducible exact LeO.none _)
      | (with_reducible refine LeO.ite ?_ ?_)
      | (with_reducible refine LeO.bind ?_ (fun _ => ?_))
      | exact ih0 _ _ _
      | exact catchpitlaw11_wakes.mono _
      | exact catchpitref05_Great.mono _ _
      | exact catchpitref05_Without.mono _ _ _
      | exact framing_Request.mono _ _
      | exact framing_Response.mono _ _ _ _
      | exact LeO.none _
      | refine LeO.ite ?_ ?_
      | refine LeO.bind ?_ (fun _ => ?_)
def catchpitref07_Has.l0 : Nat → ByteArray → List ByteArray → Int → Option (Bool)
  | 0, _, _, _ => none
  | k + 1, x0, x5, x6 => if x6 < (x5.length : Int) then (if 0 ≤ x6 then ((catchpitref07_word.f k (rdOf ByteArray.empty x5 x6)).bind fun t314 => ((catchpitref02_Small.f k t314).bind fun t315 => ((catchpitref02_Small.f k x0).bind fun t316 => (if t315.toList = t316.toList then (some true) else (catchpitref07_Has.l0 k x0 x5 (wrap64 (x6 + 1))))))) else (none)) else (some false)
def catchpitref07_Has.f (k : Nat) (a0 : ByteArray) (l1 : List ByteArray) : Option (Bool) := (catchpitref07_Items.f k l1).bind fun t310 => (catchpitref07_Has.l0 k a0 t310 0)
theorem catchpitref07_Has.mono_l : ∀ k, (∀ y0 y1 y2, LeO (catchpitref07_Has.l0 k y0 y1 y2) (catchpitref07_Has.l0 (k + 1) y0 y1 y2))
  | 0 => fun _ _ _ r h => by simp [catchpitref07_Has.l0] at h
  | k + 1 => by
    have ih0 := catchpitref07_Has.mono_l k
    · intro y0 y1 y2
      unfold catchpitref07_Has.l0
      repeat' first
      | (with_reducible exact ih0 _ _ _)
      | (with_reducible exact catchpitref02_Small.mono _ _)
      | (with_reducible exact catchpitref07_Items.mono _ _)
      | (with_reducible exact catchpitref07_word.mono _ _)
      | (with_reducible exact LeO.refl _)
      | (with_reducible exact LeO.none _)
      | (with_reducible refine LeO.ite ?_ ?_)
      | (with_reducible refine LeO.bind ?_ (fun _ => ?_))
      | exact ih0 _ _ _
      | exact catchpitref02_Small.mono _ _
      | exact catchpitref07_Items.mono _ _
      | exact catchpitref07_word.mono _ _
      | exact LeO.none _
      | refine LeO.ite ?_ ?_
      | refine LeO.bind ?_ (fun _ => ?_)
theorem catchpitref07_Has.mono : ∀ a0 a1 k, LeO (catchpitref07_Has.f k a0 a1) (catchpitref07_Has.f (k + 1) a0 a1) := by
  intro a0 a1 k
  have ih0 := catchpitref07_Has.mono_l k
  unfold catchpitref07_Has.f
  repeat' first
      | (with_reducible exact ih0 _ _ _)
      | (with_reducible exact catchpitref02_Small.mono _ _)
      | (with_reducible exact catchpitref07_Items.mono _ _)
      | (with_reducible exact catchpitref07_word.mono _ _)
      | (with_reducible exact LeO.refl _)
      | (with_reducible exact LeO.none _)
      | (with_reducible refine LeO.ite ?_ ?_)
      | (with_reducible refine LeO.bind ?_ (fun _ => ?_))
      | exact ih0 _ _ _
      | exact catchpitref02_Small.mono _ _
      | exact catchpitref07_Items.mono _ _
      | exact catchpitref07_word.mono _ _
      | exact LeO.none _
      | refine LeO.ite ?_ ?_
      | refine LeO.bind ?_ (fun _ => ?_)
def octet_Alike.f (a0 : ByteArray) (a1 : ByteArray) : Option (Bool) := (octet_Small.f a0).bind fun t317 => ((octet_Small.f a1).bind fun t318 => (some (t317.toList == t318.toList)))
def framing_Lasts.f (l0 : List (S71)) : Option (Bool) := (field_Get.f l0 (⟨#[67, 111, 110, 110, 101, 99, 116, 105, 111, 110]⟩ : ByteArray)).bind fun t319 => ((list_Has.f (⟨#[99, 108, 111, 115, 101]⟩ : ByteArray) t319).bind fun t322 => (some (!t322)))
def framing_Expects.f (l0 : List (S71)) : Option (Bool) := (field_Get.f l0 (⟨#[69, 120, 112, 101, 99, 116]⟩ : ByteArray)).bind fun t323 => ((list_Has.f (⟨#[49, 48, 48, 45, 99, 111, 110, 116, 105, 110, 117, 101]⟩ : ByteArray) t323).bind fun t326 => (some t326))
def catchpitlaw11_FramingSays.f (k : Nat) (l0 : List (S71)) : Option (Bool) := (catchpitlaw11_wakes.f k).bind fun t327 => (if t327 = true then ((catchpitref05_Great.f k l0).bind fun t328 => (if t328 = true then (some true) else ((framing_Lasts.f l0).bind fun t329 => ((catchpitref05_Get.f k l0 (⟨#[99, 111, 110, 110, 101, 99, 116, 105, 111, 110]⟩ : ByteArray)).bind fun t330 => ((catchpitref07_Has.f k (⟨#[99, 108, 111, 115, 101]⟩ : ByteArray) t330).bind fun t333 => (if (t329 == (!t333)) = true then ((framing_Expects.f l0).bind fun t334 => ((catchpitref05_Get.f k l0 (⟨#[101, 120, 112, 101, 99, 116]⟩ : ByteArray)).bind fun t335 => ((catchpitref07_Has.f k (⟨#[49, 48, 48, 45, 99, 111, 110, 116, 105, 110, 117, 101]⟩ : ByteArray) t335).bind fun t338 => (some (t334 == t338))))) else (some false))))))) else (some false))
theorem catchpitlaw11_FramingSays.mono : ∀ a0 k, LeO (catchpitlaw11_FramingSays.f k a0) (catchpitlaw11_FramingSays.f (k + 1) a0) := by
  intro a0 k
  unfold catchpitlaw11_FramingSays.f
  repeat' first
      | (with_reducible exact catchpitlaw11_wakes.mono _)
      | (with_reducible exact catchpitref05_Get.mono _ _ _)
      | (with_reducible exact catchpitref05_Great.mono _ _)
      | (with_reducible exact catchpitref07_Has.mono _ _ _)
      | (with_reducible exact LeO.refl _)
      | (with_reducible exact LeO.none _)
      | (with_reducible refine LeO.ite ?_ ?_)
      | (with_reducible refine LeO.bind ?_ (fun _ => ?_))
      | exact catchpitlaw11_wakes.mono _
      | exact catchpitref05_Get.mono _ _ _
      | exact catchpitref05_Great.mono _ _
      | exact catchpitref07_Has.mono _ _ _
      | exact LeO.none _
      | refine LeO.ite ?_ ?_
      | refine LeO.bind ?_ (fun _ => ?_)
def catchpitlaw20_waits.f  : Option ((List (S71))) := some (([(⟨(⟨#[69, 120, 112, 101, 99, 116]⟩ : ByteArray), (⟨#[49, 48, 48, 45, 99, 111, 110, 116, 105, 110, 117, 101]⟩ : ByteArray)⟩ : S71)] : List (S71)))
def expect_Handshake_goOn.f (s0_0 : Int) (s0_1 : Int) (s0_2 : ByteArray) : Option (Int × Int × ByteArray) := some (2, s0_1, (⟨#[72, 84, 84, 80, 47, 49, 46, 49, 32, 49, 48, 48, 32, 67, 111, 110, 116, 105, 110, 117, 101, 13, 10, 13, 10]⟩ : ByteArray))
end Go.Proofs.YtoanmbhenmlboaaDoor.Pr
end
section
namespace Go.Proofs.YtoanmbhenmlboaaDoorH
open Go.RowKit Go.Proofs.YtoanmbhenmlboaaDoorW.PrintWords Go.Proofs.YtoanmbhenmlboaaDoorW.PrintLast Go.Proofs.YtoanmbhenmlboaaDoorW.PrintMore Go.Proofs.YtoanmbhenmlboaaDoor.Pr
theorem itemsL_at (xs : List ByteArray) (y : ByteArray) (h : y ∈ itemsL xs) : y.size ≤ sumS xs := by
  obtain ⟨p, hp, rfl⟩ := List.mem_map.1 h
  exact (itemsF_mem xs 0 p hp).2.2
theorem itemsL_length (xs : List ByteArray) : (itemsL xs).length ≤ sumS xs := by
  unfold itemsL
  rw [List.length_map]
  exact itemsF_length xs 0
theorem badW_cons (y : ByteArray) (l : List ByteArray) : badW (y :: l) = (!(tokB (wordS y)) || badW l) := by
  unfold badW
  rw [List.any_cons]
theorem ref07_Codings_l0 (l : List ByteArray) (hl : ∀ y ∈ l, y.size ≤ 100000000) (hc : l.length ≤ 1000000000) : ∀ (d i : Nat) (acc : List ByteArray), i ≤ l.length → l.length - i = d → acc.length ≤ i →
    Ev (fun k => catchpitref07_Codings.l0 k acc l (i : Int)) (if badW (l.drop i) = true then ([], 2) else if (acc ++ codesL (l.drop i)).length = 0 then ([], 2) else (acc ++ codesL (l.drop i), 0)) := by
  intro d
  induction d with
  | zero =>
    intro i acc h1 h2 h3
    rw [List.drop_eq_nil_of_le (by omega), if_neg (by decide)]
    refine ev_succ ⟨0, fun k _ => ?_⟩
    show catchpitref07_Codings.l0 (k + 1) acc l _ = _
    rw [catchpitref07_Codings.l0, if_neg (by omega), show acc ++ codesL [] = acc from List.append_nil _]
    by_cases h0 : acc.length = 0
    · rw [if_pos (by omega), if_pos h0]
    · rw [if_neg (by omega), if_neg h0]
  | succ d ih =>
    intro i acc h1 h2 h3
    have hi : i < l.length := by omega
    have hwr : wrap64 ((i : Int) + 1) = ((i + 1 : Nat) : Int) := by unfold wrap64; omega
    have hy := hl _ (mem_getD l ByteArray.empty i hi)
    have hz := wordS_size (l.getD i ByteArray.empty)
    obtain ⟨K1, g1⟩ := ref07_word (l.getD i ByteArray.empty) (by omega)
    obtain ⟨K2, g2⟩ := ref02_Small (wordS (l.getD i ByteArray.empty)) (by omega)
    obtain ⟨K3, g3⟩ := ref02_Token (wordS (l.getD i ByteArray.empty)) (by omega)
    obtain ⟨K4, g4⟩ := ih (i + 1) (acc ++ [codeS (l.getD i ByteArray.empty)]) (by omega) (by omega) (by rw [List.length_append, List.length_singleton]; omega)
    dsimp only at g1 g2 g3 g4
    refine ev_succ ⟨K1 + K2 + K3 + K4, fun k hk => ?_⟩
    show catchpitref07_Codings.l0 (k + 1) acc l _ = _
    rw [catchpitref07_Codings.l0, if_pos (by omega), if_pos (by omega), rdOf_nat, g1 k (by omega), Option.bind_some, g3 k (by omega), Option.bind_some, drop_cons l ByteArray.empty i hi, badW_cons]
    by_cases ht : tokB (wordS (l.getD i ByteArray.empty)) = true
    · rw [if_pos ht, g2 k (by omega), Option.bind_some, if_pos (by omega), hwr, ht, Bool.not_true, Bool.false_or]
      refine (g4 k (by omega)).trans ?_
      rw [show acc ++ codesL (l.getD i ByteArray.empty :: l.drop (i + 1)) = acc ++ [codeS (l.getD i ByteArray.empty)] ++ codesL (l.drop (i + 1)) by unfold codesL; simp]
    · rw [if_neg ht, if_pos (by rw [Bool.not_eq_true] at ht; rw [ht]; rfl)]
theorem ref07_Codings (xs : List ByteArray) (hS : sumS xs ≤ 100000000) : Ev (fun k => catchpitref07_Codings.f k xs) (codR xs) := by
  have hn := itemsL_length xs
  by_cases h0 : xs.length = 0
  · refine ⟨0, fun k _ => ?_⟩
    show catchpitref07_Codings.f k xs = _
    unfold catchpitref07_Codings.f codR
    rw [if_pos (by omega), if_pos h0]
  have h := ref07_Codings_l0 (itemsL xs) (fun y hy => by have := itemsL_at xs y hy; omega) (by omega) (itemsL xs).length 0 [] (Nat.zero_le _) rfl (Nat.zero_le _)
  have e : codR xs = if badW ((itemsL xs).drop 0) = true then ([], 2) else if ([] ++ codesL ((itemsL xs).drop 0)).length = 0 then ([], 2) else ([] ++ codesL ((itemsL xs).drop 0), 0) := by
    unfold codR
    rw [if_neg h0, List.drop_zero, List.nil_append, show (codesL (itemsL xs)).length = (itemsL xs).length by unfold codesL; rw [List.length_map]]
  rw [e]
  refine ev_as (ev_bind (h := fun k t200 => catchpitref07_Codings.l0 k ([] : List ByteArray) t200 0) (ref07_Items xs hS) h) fun k => ?_
  unfold catchpitref07_Codings.f
  rw [if_neg (by omega)]
theorem codR_length (xs : List ByteArray) (hS : sumS xs ≤ 1000000) : (codR xs).1.length ≤ 1000000 := by
  have hn := itemsL_length xs
  unfold codR
  split
  · exact Nat.zero_le _
  split
  · exact Nat.zero_le _
  split
  · exact Nat.zero_le _
  · show (codesL (itemsL xs)).length ≤ _
    unfold codesL
    rw [List.length_map]
    omega
end Go.Proofs.YtoanmbhenmlboaaDoorH
end
section
namespace Go.Proofs.YtoanmbhenmlboaaDoorH
open Go.RowKit Go.Proofs.YtoanmbhenmlboaaDoorW.PrintWords Go.Proofs.YtoanmbhenmlboaaDoorW.PrintLast Go.Proofs.YtoanmbhenmlboaaDoorW.PrintMore Go.Proofs.YtoanmbhenmlboaaDoor.Pr
def digU (c : UInt8) : Bool := decide (48 ≤ (c.toNat : Int) ∧ (c.toNat : Int) ≤ 57)
def valL (n : Int) (l : List UInt8) : Int := l.foldl (fun m c => 10 * m + ((c.toNat : Int) - 48)) n
theorem valL_cons (n : Int) (c : UInt8) (l : List UInt8) : valL n (c :: l) = valL (10 * n + ((c.toNat : Int) - 48)) l := rfl
theorem digU_iff {c : UInt8} : digU c = true ↔ 48 ≤ (c.toNat : Int) ∧ (c.toNat : Int) ≤ 57 := by
  unfold digU
  exact decide_eq_true_iff
theorem valL_ge : ∀ (l : List UInt8) (n : Int), 0 ≤ n → l.all digU = true → n ≤ valL n l
  | [], n, _, _ => Int.le_refl _
  | c :: l, n, h, ha => by
    rw [List.all_cons, Bool.and_eq_true] at ha
    have hc := digU_iff.1 ha.1
    have := valL_ge l (10 * n + ((c.toNat : Int) - 48)) (by omega) ha.2
    rw [valL_cons]
    omega
theorem valL_lt : ∀ (l : List UInt8) (n : Int), 0 ≤ n → l.all digU = true → valL n l < (n + 1) * 10 ^ l.length
  | [], n, _, _ => by
    show n < (n + 1) * 10 ^ 0
    omega
  | c :: l, n, h, ha => by
    rw [List.all_cons, Bool.and_eq_true] at ha
    have hc := digU_iff.1 ha.1
    have := valL_lt l (10 * n + ((c.toNat : Int) - 48)) (by omega) ha.2
    rw [valL_cons, List.length_cons, Int.pow_succ]
    have h2 : (10 * n + ((c.toNat : Int) - 48) + 1) * 10 ^ l.length ≤ (10 * (n + 1)) * 10 ^ l.length := Int.mul_le_mul_of_nonneg_right (by omega) (Int.pow_nonneg (by omega))
    have h3 : (10 * (n + 1)) * 10 ^ l.length = (n + 1) * (10 ^ l.length * 10) := by rw [Int.mul_comm 10 (n + 1), Int.mul_assoc, Int.mul_comm 10 (10 ^ l.length)]
    omega
theorem valL_big : ∀ (l : List UInt8) (n : Int), 0 ≤ n → l.all digU = true → n * 10 ^ l.length ≤ valL n l
  | [], n, _, _ => by
    show n * 10 ^ 0 ≤ n
    omega
  | c :: l, n, h, ha => by
    rw [List.all_cons, Bool.and_eq_true] at ha
    have hc := digU_iff.1 ha.1
    have := valL_big l (10 * n + ((c.toNat : Int) - 48)) (by omega) ha.2
    rw [valL_cons, List.length_cons, Int.pow_succ]
    have h2 : (10 * n) * 10 ^ l.length ≤ (10 * n + ((c.toNat : Int) - 48)) * 10 ^ l.length := Int.mul_le_mul_of_nonneg_right (by omega) (Int.pow_nonneg (by omega))
    have h3 : (10 * n) * 10 ^ l.length = n * (10 ^ l.length * 10) := by rw [Int.mul_comm 10 n, Int.mul_assoc, Int.mul_comm 10 (10 ^ l.length)]
    omega
theorem numL_bad : ∀ (l : List UInt8) (n : Int) (big : Bool), l.all digU = false → numL n big l = none
  | [], _, _, h => by cases h
  | c :: l, n, big, h => by
    rw [numL]
    by_cases hc : digU c = true
    · rw [List.all_cons, hc, Bool.true_and] at h
      have := digU_iff.1 hc
      rw [if_neg (by omega)]
      split
      · exact numL_bad l _ _ h
      split
      · exact numL_bad l _ _ h
      · exact numL_bad l _ _ h
    · have : ¬ (48 ≤ (c.toNat : Int) ∧ (c.toNat : Int) ≤ 57) := fun e => hc (digU_iff.2 e)
      rw [if_pos (by omega)]
theorem numL_true : ∀ (l : List UInt8) (n : Int), l.all digU = true → numL n true l = some (n, true)
  | [], _, _ => rfl
  | c :: l, n, h => by
    rw [List.all_cons, Bool.and_eq_true] at h
    have := digU_iff.1 h.1
    rw [numL, if_neg (by omega), if_pos rfl]
    exact numL_true l n h.2
theorem numL_good : ∀ (l : List UInt8) (n : Int), 0 ≤ n → l.all digU = true → (valL n l ≤ 4611686018427387903 → numL n false l = some (valL n l, false)) ∧ (4611686018427387903 < valL n l → n ≤ 4611686018427387903 → ∃ m, numL n false l = some (m, true))
  | [], n, _, _ => ⟨fun _ => rfl, fun h h2 => by have : valL n [] = n := rfl; omega⟩
  | c :: l, n, h0, h => by
    rw [List.all_cons, Bool.and_eq_true] at h
    have hc := digU_iff.1 h.1
    rw [numL, if_neg (by omega), if_neg (by decide), valL_cons]
    have hge := valL_ge l (10 * n + ((c.toNat : Int) - 48)) (by omega) h.2
    have ih := numL_good l (10 * n + ((c.toNat : Int) - 48)) (by omega) h.2
    by_cases hb : n > (4611686018427387903 - ((c.toNat : Int) - 48)) / 10
    · rw [if_pos hb]
      exact ⟨fun hv => by omega, fun _ _ => ⟨n, numL_true l n h.2⟩⟩
    · rw [if_neg hb]
      exact ⟨fun hv => ih.1 hv, fun hv hn => ih.2 hv (by omega)⟩
theorem numR_eq (s : ByteArray) : numR s = if s.data.toList.all digU = false ∨ s.size = 0 then (0, 2) else if valL 0 s.data.toList > 4611686018427387903 then (0, 3) else (valL 0 s.data.toList, 0) := by
  cases h : s.data.toList.all digU with
  | false => rw [if_pos (.inl rfl), numR_none (numL_bad _ _ _ h)]
  | true =>
    have hg := numL_good s.data.toList 0 (Int.le_refl _) h
    by_cases hs : s.size = 0
    · rw [if_pos (.inr hs)]
      by_cases hv : valL 0 s.data.toList ≤ 4611686018427387903
      · rw [numR_some (hg.1 hv), if_pos hs]
      · obtain ⟨m, hm⟩ := hg.2 (by omega) (by omega)
        rw [numR_some hm, if_pos hs]
    · rw [if_neg (by simp [hs])]
      by_cases hv : valL 0 s.data.toList ≤ 4611686018427387903
      · rw [numR_some (hg.1 hv), if_neg hs, if_neg (by decide), if_neg (by omega)]
      · obtain ⟨m, hm⟩ := hg.2 (by omega) (by omega)
        rw [numR_some hm, if_neg hs, if_pos rfl, if_pos (by omega)]
theorem pow10_ge (k m : Nat) (h : m ≤ k) : (10 : Int) ^ m ≤ (10 : Int) ^ k := by
  have := Nat.pow_le_pow_right (n := 10) (by decide) h
  have e : ∀ j : Nat, (10 : Int) ^ j = ((10 ^ j : Nat) : Int) := fun j => by rw [Int.natCast_pow]; rfl
  rw [e, e]
  exact Int.ofNat_le.2 this
theorem ref07_Number_l1 (s : ByteArray) (hs : s.size ≤ 1000000000) : ∀ (d i : Nat) (n : Int), i ≤ s.size → s.size - i = d → 0 ≤ n → (s.data.toList.drop i).all digU = true → valL n (s.data.toList.drop i) < 18446744073709551616 →
    Ev (fun k => catchpitref07_Number.l1 k s n (i : Int)) (if valL n (s.data.toList.drop i) > 4611686018427387903 then (0, 3) else (valL n (s.data.toList.drop i), 0)) := by
  intro d
  induction d with
  | zero =>
    intro i n h1 h2 h3 h4 h5
    rw [List.drop_eq_nil_of_le (by rw [data_length]; omega)]
    refine ev_succ ⟨0, fun k _ => ?_⟩
    show catchpitref07_Number.l1 (k + 1) s n _ = _
    rw [catchpitref07_Number.l1, if_neg (by omega)]
    show _ = some (if n > 4611686018427387903 then _ else (n, 0))
    split <;> rfl
  | succ d ih =>
    intro i n h1 h2 h3 h4 h5
    obtain ⟨b, hb, hbt⟩ := drop_byte s i (by omega)
    have hw : wrap64 ((i : Int) + 1) = ((i + 1 : Nat) : Int) := by unfold wrap64; omega
    rw [hb, List.all_cons, Bool.and_eq_true] at h4
    have hc := digU_iff.1 h4.1
    rw [hb, valL_cons] at h5
    have hge := valL_ge (s.data.toList.drop (i + 1)) (10 * n + ((b.toNat : Int) - 48)) (by omega) h4.2
    have g := ih (i + 1) (10 * n + ((b.toNat : Int) - 48)) (by omega) (by omega) (by omega) h4.2 h5
    rw [hb, valL_cons]
    refine ev_succ (ev_as g fun k => ?_)
    rw [catchpitref07_Number.l1, if_pos (by omega), if_pos (by omega), hbt, hw, u64_id (m := 10 * n) (by omega) (by omega), show (((b.toNat : Nat) : Int) - 48) % 256 = ((b.toNat : Nat) : Int) - 48 by omega, u64_id (by omega) (by omega)]
theorem valL_zeros : ∀ (l : List UInt8), (∀ x ∈ l, x = 48) → ∀ r, valL 0 (l ++ r) = valL 0 r
  | [], _, _ => rfl
  | c :: l, h, r => by
    rw [h c List.mem_cons_self, List.cons_append, valL_cons]
    exact valL_zeros l (fun x hx => h x (List.mem_cons_of_mem _ hx)) r
theorem ref07_Number_l0 (s : ByteArray) (hs : s.size ≤ 1000000000) (h0 : 0 < s.size) : ∀ (d i a : Nat), i ≤ s.size → s.size - i = d → a ≤ i → a < s.size → (∀ x ∈ s.data.toList.take a, x = 48) → (a < i → a < s.size - 1 → bt s a ≠ 48) → (s.data.toList.take i).all digU = true →
    Ev (fun k => catchpitref07_Number.l0 k s (a : Int) (i : Int)) (numR s) := by
  intro d
  induction d with
  | zero =>
    intro i a h1 h2 h3 h4 h5 h6 h7
    obtain rfl : i = s.size := by omega
    rw [List.take_of_length_le (by rw [data_length]; exact Nat.le_refl _)] at h7
    have hv : valL 0 s.data.toList = valL 0 (s.data.toList.drop a) := by
      have := valL_zeros (s.data.toList.take a) h5 (s.data.toList.drop a)
      rwa [List.take_append_drop] at this
    have hda : (s.data.toList.drop a).all digU = true := by
      rw [← List.take_append_drop a s.data.toList, List.all_append, Bool.and_eq_true] at h7
      exact h7.2
    rw [numR_eq, if_neg (fun h => h.elim (fun h => by rw [h7] at h; cases h) (fun h => by omega)), hv]
    have hww : wrap64 ((s.size : Int) - (a : Int)) = (s.size : Int) - (a : Int) := by unfold wrap64; omega
    by_cases hl : (s.size : Int) - (a : Int) > 19
    · have hne := h6 (by omega) (by omega)
      obtain ⟨b, hb, hbt⟩ := drop_byte s a h4
      rw [hb, List.all_cons, Bool.and_eq_true] at hda
      have hc := digU_iff.1 hda.1
      have hbig := valL_big (s.data.toList.drop (a + 1)) (10 * 0 + ((b.toNat : Int) - 48)) (by omega) hda.2
      have hp := pow10_ge (s.data.toList.drop (a + 1)).length 19 (by rw [List.length_drop, data_length]; omega)
      have hone : (1 : Int) * 10 ^ (s.data.toList.drop (a + 1)).length ≤ (10 * 0 + ((b.toNat : Int) - 48)) * 10 ^ (s.data.toList.drop (a + 1)).length := Int.mul_le_mul_of_nonneg_right (by omega) (Int.pow_nonneg (by omega))
      have h19 : (10 : Int) ^ 19 = 10000000000000000000 := by decide
      refine ev_succ ⟨0, fun k _ => ?_⟩
      show catchpitref07_Number.l0 (k + 1) s _ _ = _
      rw [catchpitref07_Number.l0, if_neg (by omega), hww, if_pos hl, hb, valL_cons, if_pos (by omega)]
    · have hlt := valL_lt (s.data.toList.drop a) 0 (Int.le_refl _) hda
      have hp := pow10_ge 19 (s.data.toList.drop a).length (by rw [List.length_drop, data_length]; omega)
      have h19 : (10 : Int) ^ 19 = 10000000000000000000 := by decide
      have g := ref07_Number_l1 s hs (s.size - a) a 0 (by omega) rfl (Int.le_refl _) hda (by omega)
      refine ev_succ (ev_as g fun k => ?_)
      rw [catchpitref07_Number.l0, if_neg (by omega), hww, if_neg hl]
  | succ d ih =>
    intro i a h1 h2 h3 h4 h5 h6 h7
    obtain ⟨b, hb, hbt⟩ := drop_byte s i (by omega)
    have hw : wrap64 ((i : Int) + 1) = ((i + 1 : Nat) : Int) := by unfold wrap64; omega
    have hw2 : wrap64 ((a : Int) + 1) = ((a + 1 : Nat) : Int) := by unfold wrap64; omega
    have hw3 : wrap64 ((s.size : Int) - 1) = (s.size : Int) - 1 := by unfold wrap64; omega
    have htk : s.data.toList.take (i + 1) = s.data.toList.take i ++ [b] := by
      have h := List.take_append_drop i s.data.toList
      rw [hb] at h
      have hi : i < s.data.toList.length := by rw [data_length]; omega
      have e2 := List.drop_eq_getElem_cons hi
      rw [hb] at e2
      injection e2 with e2
      rw [List.take_succ_eq_append_getElem hi, ← e2]
    by_cases hd : digU b = true
    · have hc := digU_iff.1 hd
      have hall : (s.data.toList.take (i + 1)).all digU = true := by rw [htk, List.all_append, h7, List.all_cons, hd]; rfl
      have hj : ∀ k, catchpitref07_Number.l0 (k + 1) s (a : Int) (i : Int) = catchpitref07_Number.j1 k s (a : Int) (i : Int) false := fun k => by
        rw [catchpitref07_Number.l0, if_pos (by omega), if_pos (by omega), if_neg (by omega), decide_eq_false (by omega)]
      by_cases hz : bt s (i : Int) = 48 ∧ a = i ∧ (i : Int) < (s.size : Int) - 1
      · obtain ⟨z1, rfl, z3⟩ := hz
        have hb48 : b = 48 := UInt8.toNat_inj.1 (by show b.toNat = 48; omega)
        have g := ih (a + 1) (a + 1) (by omega) (by omega) (Nat.le_refl _) (by omega) (fun x hx => by
          rw [htk] at hx
          rcases List.mem_append.1 hx with h | h
          · exact h5 x h
          · rw [List.mem_singleton.1 h]; exact hb48) (fun h => absurd h (Nat.lt_irrefl _)) hall
        refine ev_succ (ev_as (ev_succ (g := fun k => catchpitref07_Number.j1 k s (a : Int) (a : Int) false) (ev_as g fun k => ?_)) hj)
        rw [catchpitref07_Number.j1, if_neg (by decide), if_pos (by omega), if_pos (by omega), if_pos z1, if_pos rfl, if_pos (by omega), hw]
      · have g := ih (i + 1) a (by omega) (by omega) (by omega) h4 h5 (fun ha hl => by
          rcases Nat.lt_or_ge a i with h | h
          · exact h6 h hl
          · obtain rfl : a = i := by omega
            exact fun e => hz ⟨e, rfl, by omega⟩) hall
        refine ev_succ (ev_as (ev_succ (g := fun k => catchpitref07_Number.j1 k s (a : Int) (i : Int) false) (ev_as g fun k => ?_)) hj)
        rw [catchpitref07_Number.j1, if_neg (by decide), if_pos (by omega), if_pos (by omega)]
        by_cases z1 : bt s (i : Int) = 48
        · rw [if_pos z1]
          by_cases z2 : (a : Int) = (i : Int)
          · rw [if_pos z2, hw3, if_neg (fun h => hz ⟨z1, by omega, h⟩), hw]
          · rw [if_neg z2, hw]
        · rw [if_neg z1, hw]
    · have hnd : ¬ (48 ≤ (b.toNat : Int) ∧ (b.toNat : Int) ≤ 57) := fun e => hd (digU_iff.2 e)
      have hbad : s.data.toList.all digU = false := by
        rw [← List.take_append_drop i s.data.toList, List.all_append, hb, List.all_cons, Bool.eq_false_iff.2 hd, Bool.false_and, Bool.and_false]
      rw [numR_eq, if_pos (.inl hbad)]
      refine ev_succ (ev_succ ⟨0, fun k _ => ?_⟩)
      show catchpitref07_Number.l0 (k + 1 + 1) s _ _ = _
      rw [catchpitref07_Number.l0, if_pos (by omega), if_pos (by omega)]
      by_cases hlow : bt s (i : Int) < 48
      · rw [if_pos hlow, catchpitref07_Number.j1, if_pos rfl]
      · rw [if_neg hlow, decide_eq_true (by omega), catchpitref07_Number.j1, if_pos rfl]
theorem ref07_Number (s : ByteArray) (hs : s.size ≤ 1000000000) : Ev (fun k => catchpitref07_Number.f k s) (numR s) := by
  by_cases h0 : s.size = 0
  · refine ⟨0, fun k _ => ?_⟩
    show catchpitref07_Number.f k s = _
    rw [catchpitref07_Number.f, if_pos (by omega), numR_eq, if_pos (.inr h0)]
  · have g := ref07_Number_l0 s hs (by omega) s.size 0 0 (Nat.zero_le _) rfl (Nat.le_refl _) (by omega) (by simp) (fun h => absurd h (Nat.lt_irrefl _)) rfl
    refine ev_as g fun k => ?_
    rw [catchpitref07_Number.f, if_neg (by omega)]
    rfl
end Go.Proofs.YtoanmbhenmlboaaDoorH
end
section
namespace Go.Proofs.YtoanmbhenmlboaaDoorH
open Go.RowKit Go.Proofs.YtoanmbhenmlboaaDoorW.PrintWords Go.Proofs.YtoanmbhenmlboaaDoorW.PrintLast Go.Proofs.YtoanmbhenmlboaaDoorW.PrintMore Go.Proofs.YtoanmbhenmlboaaDoor.Pr
def alikeN (l : List Int) : Bool := l.all fun x => x == l.getD 0 0
def lastN (l : List Int) : Int := l.getLastD 0
theorem lastN_snoc (l : List Int) (x : Int) : lastN (l ++ [x]) = x := by
  unfold lastN
  rw [List.getLastD_eq_getLast?, List.getLast?_append]
  rfl
theorem lastN_mem (l : List Int) (h : l ≠ []) : lastN l ∈ l := by
  rcases List.eq_nil_or_concat l with e | ⟨m, x, e⟩
  · exact absurd e h
  · rw [List.concat_eq_append] at e
    rw [e, lastN_snoc]
    simp
theorem alikeN_all {l : List Int} (h : alikeN l = true) : ∀ x ∈ l, x = l.getD 0 0 := fun x hx => by
  have := List.all_eq_true.1 h x hx
  exact eq_of_beq this
theorem alikeN_last {l : List Int} (h : alikeN l = true) (hne : l ≠ []) : lastN l = l.getD 0 0 := alikeN_all h _ (lastN_mem l hne)
theorem alikeN_snoc (l : List Int) (x : Int) (hne : l ≠ []) : alikeN (l ++ [x]) = (alikeN l && (x == lastN l)) := by
  have e : (l ++ [x]).getD 0 0 = l.getD 0 0 := by
    cases l with
    | nil => exact absurd rfl hne
    | cons a l => rfl
  have h1 : alikeN (l ++ [x]) = (alikeN l && (x == l.getD 0 0)) := by
    show ((l ++ [x]).all fun y => y == (l ++ [x]).getD 0 0) = _
    rw [e, List.all_append, List.all_cons, List.all_nil, Bool.and_true]
    rfl
  rw [h1]
  cases ha : alikeN l with
  | false => rw [Bool.false_and, Bool.false_and]
  | true => rw [alikeN_last ha hne]
theorem foldmin_le : ∀ (l : List Int) (a : Int), l.foldl min a ≤ a ∧ ∀ x ∈ l, l.foldl min a ≤ x
  | [], a => ⟨Int.le_refl _, fun _ h => absurd h List.not_mem_nil⟩
  | b :: l, a => by
    obtain ⟨h1, h2⟩ := foldmin_le l (min a b)
    rw [List.foldl_cons]
    refine ⟨by omega, fun x hx => ?_⟩
    rcases List.mem_cons.1 hx with rfl | hx
    · omega
    · exact h2 x hx
theorem foldmax_ge : ∀ (l : List Int) (a : Int), a ≤ l.foldl max a ∧ ∀ x ∈ l, x ≤ l.foldl max a
  | [], a => ⟨Int.le_refl _, fun _ h => absurd h List.not_mem_nil⟩
  | b :: l, a => by
    obtain ⟨h1, h2⟩ := foldmax_ge l (max a b)
    rw [List.foldl_cons]
    refine ⟨by omega, fun x hx => ?_⟩
    rcases List.mem_cons.1 hx with rfl | hx
    · omega
    · exact h2 x hx
theorem fold_same : ∀ (l : List Int) (a : Int), (∀ x ∈ l, x = a) → l.foldl min a = a ∧ l.foldl max a = a
  | [], a, _ => ⟨rfl, rfl⟩
  | b :: l, a, h => by
    have hb := h b List.mem_cons_self
    subst hb
    rw [List.foldl_cons, List.foldl_cons, show min b b = b by omega, show max b b = b by omega]
    exact fold_same l b (fun x hx => h x (List.mem_cons_of_mem _ hx))
theorem minmax_alike (l : List Int) (hne : l ≠ []) : (minI l = maxI l) ↔ alikeN l = true := by
  cases l with
  | nil => exact absurd rfl hne
  | cons a l =>
    show (l.foldl min a = l.foldl max a) ↔ _
    constructor
    · intro h
      obtain ⟨h1, h2⟩ := foldmin_le l a
      obtain ⟨h3, h4⟩ := foldmax_ge l a
      refine List.all_eq_true.2 fun x hx => ?_
      show (x == a) = true
      rcases List.mem_cons.1 hx with rfl | hx
      · exact beq_self_eq_true _
      · have := h2 x hx
        have := h4 x hx
        exact beq_iff_eq.2 (by omega)
    · intro h
      obtain ⟨h1, h2⟩ := fold_same l a (fun x hx => alikeN_all h x (List.mem_cons_of_mem _ hx))
      rw [h1, h2]
theorem mem_itemsF : ∀ (xs : List ByteArray) (i : Nat) (y : Nat × ByteArray), y ∈ itemsF i xs ↔ ∃ j, j < xs.length ∧ y.1 = i + j ∧ y.2 ∈ itemsP (xs.getD j ByteArray.empty)
  | [], i, y => ⟨fun h => absurd h List.not_mem_nil, fun ⟨j, h, _⟩ => absurd h (Nat.not_lt_zero _)⟩
  | v :: xs, i, y => by
    rw [itemsF, List.mem_append]
    constructor
    · rintro (h | h)
      · obtain ⟨x, hx, rfl⟩ := List.mem_map.1 h
        exact ⟨0, Nat.succ_pos _, rfl, hx⟩
      · obtain ⟨j, h1, h2, h3⟩ := (mem_itemsF xs (i + 1) y).1 h
        exact ⟨j + 1, Nat.succ_lt_succ h1, by omega, h3⟩
    · rintro ⟨j, h1, h2, h3⟩
      cases j with
      | zero => exact .inl (List.mem_map.2 ⟨y.2, h3, by rw [Prod.ext_iff]; exact ⟨h2.symm, rfl⟩⟩)
      | succ j => exact .inr ((mem_itemsF xs (i + 1) y).2 ⟨j, Nat.lt_of_succ_lt_succ h1, by omega, h3⟩)
theorem fold_met : ∀ (l : List (Nat × ByteArray)) (m : List Int) (j : Nat), (∀ i, 0 ≤ m.getD i 0) → j < m.length →
    0 ≤ (l.foldl (fun m y => m.set y.1 (m.getD y.1 0 + 1)) m).getD j 0 ∧ ((l.foldl (fun m y => m.set y.1 (m.getD y.1 0 + 1)) m).getD j 0 = 0 ↔ m.getD j 0 = 0 ∧ ∀ y ∈ l, y.1 ≠ j)
  | [], m, j, h, _ => ⟨h j, fun e => ⟨e, fun _ h => absurd h List.not_mem_nil⟩, fun e => e.1⟩
  | y :: l, m, j, h, hj => by
    have hm : ∀ i, 0 ≤ (m.set y.1 (m.getD y.1 0 + 1)).getD i 0 := fun i => by
      rw [getD_set]
      have h1 := h i
      have h2 := h y.1
      split <;> omega
    obtain ⟨h1, h2⟩ := fold_met l (m.set y.1 (m.getD y.1 0 + 1)) j hm (by rw [List.length_set]; exact hj)
    rw [List.foldl_cons]
    refine ⟨h1, h2.trans ?_⟩
    rw [getD_set]
    have hy := h y.1
    by_cases he : y.1 = j
    · rw [if_pos ⟨he, hj⟩]
      exact ⟨fun e => by have := e.1; omega, fun e => absurd he (e.2 y List.mem_cons_self)⟩
    · rw [if_neg (fun e => he e.1)]
      exact ⟨fun e => ⟨e.1, fun z hz => (List.mem_cons.1 hz).elim (fun e => e ▸ he) (e.2 z)⟩, fun e => ⟨e.1, fun z hz => e.2 z (List.mem_cons_of_mem _ hz)⟩⟩
theorem met_iff (xs : List ByteArray) : (metL xs.length (itemsF 0 xs)).contains 0 = true ↔ ∃ j, j < xs.length ∧ itemsP (xs.getD j ByteArray.empty) = [] := by
  have hlen := metL_length xs.length (itemsF 0 xs)
  have hz : ∀ i, (0 : Int) ≤ (List.replicate xs.length (0 : Int)).getD i 0 ∧ (List.replicate xs.length (0 : Int)).getD i 0 = 0 := fun i => by
    rw [List.getD_eq_getElem?_getD, List.getElem?_replicate]
    split <;> simp
  have key : ∀ j, j < xs.length → ((metL xs.length (itemsF 0 xs)).getD j 0 = 0 ↔ itemsP (xs.getD j ByteArray.empty) = []) := by
    intro j hj
    refine (fold_met (itemsF 0 xs) (List.replicate xs.length 0) j (fun i => (hz i).1) (by rw [List.length_replicate]; exact hj)).2.trans ?_
    constructor
    · rintro ⟨_, h⟩
      rcases hq : itemsP (xs.getD j ByteArray.empty) with _ | ⟨a, r⟩
      · rfl
      · exact absurd rfl (h (j, a) ((mem_itemsF xs 0 (j, a)).2 ⟨j, hj, (Nat.zero_add j).symm, by rw [hq]; exact List.mem_cons_self⟩))
    · intro h
      refine ⟨(hz j).2, fun y hy e => ?_⟩
      obtain ⟨i, h1, h2, h3⟩ := (mem_itemsF xs 0 y).1 hy
      obtain rfl : i = j := by omega
      rw [h] at h3
      exact absurd h3 List.not_mem_nil
  rw [List.contains_iff_mem]
  constructor
  · intro h
    obtain ⟨j, hj, he⟩ := List.getElem_of_mem h
    refine ⟨j, by omega, (key j (by omega)).1 ?_⟩
    rw [List.getD_eq_getElem?_getD, List.getElem?_eq_getElem hj]
    exact he
  · rintro ⟨j, hj, h⟩
    have := (key j hj).2 h
    rw [← this]
    exact mem_getD _ 0 j (by omega)
theorem nums_snoc (l : List (Nat × ByteArray)) (y : Nat × ByteArray) : nums (l ++ [y]) = nums l ++ [(numR y.2).1] := by
  unfold nums
  rw [List.map_append]
  rfl
theorem nums_ne {l : List (Nat × ByteArray)} (h : l ≠ []) : nums l ≠ [] := fun e => h (List.map_eq_nil_iff.1 e)
theorem badN_sub {l m : List (Nat × ByteArray)} (h : ∀ y ∈ l, y ∈ m) (hb : badN l = true) : badN m = true := by
  obtain ⟨y, hy, he⟩ := List.any_eq_true.1 hb
  exact List.any_eq_true.2 ⟨y, h y hy, he⟩
theorem lenR_whole (xs : List ByteArray) (h0 : xs.length ≠ 0) (hall : ∀ j, j < xs.length → itemsP (xs.getD j ByteArray.empty) ≠ []) (hb : badN (itemsF 0 xs) = false) :
    lenR xs = if bigN (itemsF 0 xs) = true then (0, 3) else if alikeN (nums (itemsF 0 xs)) = true then (lastN (nums (itemsF 0 xs)), 0) else (0, 2) := by
  have hne : itemsF 0 xs ≠ [] := by
    obtain ⟨a, r, hq⟩ := List.exists_cons_of_ne_nil (hall 0 (by omega))
    intro e
    have := (mem_itemsF xs 0 (0, a)).2 ⟨0, by omega, rfl, by rw [hq]; exact List.mem_cons_self⟩
    rw [e] at this
    exact absurd this List.not_mem_nil
  unfold lenR
  rw [if_neg h0, if_neg (by rw [hb]; decide), if_neg (fun h => by obtain ⟨j, hj, he⟩ := (met_iff xs).1 h; exact hall j hj he)]
  by_cases hg : bigN (itemsF 0 xs) = true
  · rw [if_pos hg, if_pos hg]
  · rw [if_neg hg, if_neg hg]
    by_cases ha : alikeN (nums (itemsF 0 xs)) = true
    · rw [if_neg (fun h => h ((minmax_alike _ (nums_ne hne)).2 ha)), if_pos ha, alikeN_last ha (nums_ne hne)]
    · rw [if_pos (fun h => ha ((minmax_alike _ (nums_ne hne)).1 h)), if_neg ha]
theorem lenR_bad (xs : List ByteArray) (h0 : xs.length ≠ 0) (h : badN (itemsF 0 xs) = true ∨ ∃ j, j < xs.length ∧ itemsP (xs.getD j ByteArray.empty) = []) : lenR xs = (0, 2) := by
  unfold lenR
  rw [if_neg h0]
  by_cases hb : badN (itemsF 0 xs) = true
  · rw [if_pos hb]
  · rw [if_neg hb, if_pos ((met_iff xs).2 (h.resolve_left hb))]
theorem ref07_Length_l1 (xs : List ByteArray) (h0 : xs.length ≠ 0) (hS : sumS xs ≤ 100000000) (i : Nat) (hi : i < xs.length) (its : List ByteArray) (hits : its = itemsP (xs.getD i ByteArray.empty)) (P0 : List (Nat × ByteArray)) (hP0 : P0 = itemsF 0 (xs.take i)) (hpos : 0 < i → P0 ≠ [])
    (hK : badN (P0 ++ its.map fun y => (i, y)) = false → Ev (fun k => catchpitref07_Length.l0 k xs (bigN (P0 ++ its.map fun y => (i, y))) (alikeN (nums (P0 ++ its.map fun y => (i, y)))) (lastN (nums (P0 ++ its.map fun y => (i, y)))) (wrap64 ((i : Int) + 1))) (lenR xs)) :
    ∀ (d j : Nat) (P : List (Nat × ByteArray)), j ≤ its.length → its.length - j = d → P = P0 ++ (its.take j).map (fun y => (i, y)) → badN P = false →
    Ev (fun k => catchpitref07_Length.l1 k xs (bigN P) (alikeN (nums P)) (lastN (nums P)) (i : Int) its (j : Int)) (lenR xs) := by
  have hlen := sumS_length xs
  have hil := itemsP_length (xs.getD i ByteArray.empty)
  have his := itemsP_size (xs.getD i ByteArray.empty)
  have hvs := sumS_at xs _ (mem_getD xs ByteArray.empty i hi)
  rw [← hits] at hil his
  intro d
  induction d with
  | zero =>
    intro j P h1 h2 hP hb
    rw [List.take_of_length_le (by omega)] at hP
    subst hP
    refine ev_succ (ev_as (hK hb) fun k => ?_)
    rw [catchpitref07_Length.l1, if_neg (by omega)]
  | succ d ih =>
    intro j P h1 h2 hP hb
    have hj : j < its.length := by omega
    have hw : wrap64 ((j : Int) + 1) = ((j + 1 : Nat) : Int) := by unfold wrap64; omega
    have hij : ¬ ((i + j : Nat) : Int) > 0 → i = 0 ∧ j = 0 := fun h => by omega
    have hw2 : wrap64 ((i : Int) + (j : Int)) = ((i + j : Nat) : Int) := by unfold wrap64; omega
    have hsz := his _ (mem_getD its ByteArray.empty j hj)
    obtain ⟨K1, g1⟩ := ref07_Number (its.getD j ByteArray.empty) (by omega)
    dsimp only at g1
    have hP' : P ++ [(i, its.getD j ByteArray.empty)] = P0 ++ (its.take (j + 1)).map (fun y => (i, y)) := by
      rw [hP, take_one its ByteArray.empty j hj, List.map_append, List.append_assoc]
      rfl
    have hmem : ∀ y ∈ P ++ [(i, its.getD j ByteArray.empty)], y ∈ itemsF 0 xs := by
      intro y hy
      rw [hP', List.mem_append] at hy
      rw [itemsF_drop xs 0 (i + 1) (by omega), itemsF_take xs 0 i hi, List.mem_append, List.mem_append]
      rcases hy with h | h
      · exact .inl (.inl (by rw [← hP0]; exact h))
      · obtain ⟨z, hz, rfl⟩ := List.mem_map.1 h
        refine .inl (.inr (List.mem_map.2 ⟨z, ?_, by rw [Nat.zero_add]⟩))
        rw [← hits]
        exact (List.take_subset _ _) hz
    obtain ⟨x, e, hxe⟩ : ∃ x e, numR (its.getD j ByteArray.empty) = (x, e) := ⟨_, _, rfl⟩
    have hbs := badN_snoc P (i, its.getD j ByteArray.empty)
    have hgs := bigN_snoc P (i, its.getD j ByteArray.empty)
    have hns := nums_snoc P (i, its.getD j ByteArray.empty)
    dsimp only at hbs hgs hns
    rw [hxe] at hbs hgs hns g1
    dsimp only at hbs hgs hns
    rw [hb, Bool.false_or] at hbs
    by_cases he2 : e = 2
    · subst he2
      rw [lenR_bad xs h0 (.inl (badN_sub hmem hbs))]
      refine ev_succ ⟨K1, fun k hk => ?_⟩
      show catchpitref07_Length.l1 (k + 1) _ _ _ _ _ _ _ = _
      rw [catchpitref07_Length.l1, if_pos (by omega), if_pos (by omega), rdOf_nat, g1 k hk, Option.bind_some, if_pos rfl]
    · rw [show (e == 2) = false by simpa using he2] at hbs
      obtain ⟨K2, g2⟩ := ih (j + 1) (P ++ [(i, its.getD j ByteArray.empty)]) (by omega) (by omega) hP' hbs
      dsimp only at g2
      rw [hgs, hns, lastN_snoc] at g2
      refine ev_succ ⟨K1 + K2, fun k hk => ?_⟩
      have g := g2 k (by omega)
      show catchpitref07_Length.l1 (k + 1) _ _ _ _ _ _ _ = _
      rw [catchpitref07_Length.l1, if_pos (by omega), if_pos (by omega), rdOf_nat, g1 k (by omega), Option.bind_some, if_neg he2, hw, hw2]
      dsimp only
      by_cases hz : ((i + j : Nat) : Int) > 0
      · have hne : P ≠ [] := by
          rw [hP]
          intro h
          rw [List.append_eq_nil_iff] at h
          rcases Nat.eq_zero_or_pos i with hi0 | hi0
          · have := congrArg List.length h.2
            rw [List.length_map, List.length_take] at this
            simp only [List.length_nil] at this
            omega
          · exact hpos hi0 h.1
        rw [alikeN_snoc _ _ (nums_ne hne)] at g
        by_cases hx : x = lastN (nums P)
        · rw [show (x == lastN (nums P)) = true by rw [hx]; exact beq_self_eq_true _, Bool.and_true] at g
          by_cases he3 : e = 3
          · rw [if_pos he3, if_pos hz, if_pos hx]
            rw [show (e == 3) = true by rw [he3]; rfl, Bool.or_true] at g
            exact g
          · rw [if_neg he3, if_pos hz, if_pos hx]
            rw [show (e == 3) = false by simpa using he3, Bool.or_false] at g
            exact g
        · rw [show (x == lastN (nums P)) = false by simpa using hx, Bool.and_false] at g
          by_cases he3 : e = 3
          · rw [if_pos he3, if_pos hz, if_neg hx]
            rw [show (e == 3) = true by rw [he3]; rfl, Bool.or_true] at g
            exact g
          · rw [if_neg he3, if_pos hz, if_neg hx]
            rw [show (e == 3) = false by simpa using he3, Bool.or_false] at g
            exact g
      · have hnil : P = [] := by
          obtain ⟨e1, e2⟩ := hij hz
          rw [hP, hP0, e1, e2]
          rfl
        subst hnil
        rw [show alikeN (nums [] ++ [x]) = alikeN (nums []) by unfold alikeN nums; simp] at g
        by_cases he3 : e = 3
        · rw [if_pos he3, if_neg hz]
          rw [show (e == 3) = true by rw [he3]; rfl, Bool.or_true] at g
          exact g
        · rw [if_neg he3, if_neg hz]
          rw [show (e == 3) = false by simpa using he3, Bool.or_false] at g
          exact g
theorem ref07_Length_l0 (xs : List ByteArray) (h0 : xs.length ≠ 0) (hS : sumS xs ≤ 100000000) : ∀ (d i : Nat) (P : List (Nat × ByteArray)), i ≤ xs.length → xs.length - i = d → P = itemsF 0 (xs.take i) → badN P = false → (∀ j, j < i → itemsP (xs.getD j ByteArray.empty) ≠ []) →
    Ev (fun k => catchpitref07_Length.l0 k xs (bigN P) (alikeN (nums P)) (lastN (nums P)) (i : Int)) (lenR xs) := by
  have hlen := sumS_length xs
  intro d
  induction d with
  | zero =>
    intro i P h1 h2 hP hb hall
    rw [List.take_of_length_le (by omega)] at hP
    subst hP
    rw [lenR_whole xs h0 (fun j hj => hall j (by omega)) hb]
    refine ev_succ ⟨0, fun k _ => ?_⟩
    show catchpitref07_Length.l0 (k + 1) _ _ _ _ _ = _
    rw [catchpitref07_Length.l0, if_neg (by omega)]
    by_cases hg : bigN (itemsF 0 xs) = true
    · rw [if_pos hg, if_pos hg]
    · rw [if_neg hg, if_neg hg]
      by_cases ha : alikeN (nums (itemsF 0 xs)) = true
      · rw [if_pos ha, if_pos ha]
      · rw [if_neg ha, if_neg ha]
  | succ d ih =>
    intro i P h1 h2 hP hb hall
    have hi : i < xs.length := by omega
    have hw : wrap64 ((i : Int) + 1) = ((i + 1 : Nat) : Int) := by unfold wrap64; omega
    have hcut : (xs.take (i + 1)).drop i = [xs.getD i ByteArray.empty] := by
      rw [take_one xs ByteArray.empty i hi, List.drop_append_of_le_length (by rw [List.length_take]; omega), List.drop_of_length_le (by rw [List.length_take]; omega), List.nil_append]
    have hvs := sumS_at xs _ (mem_getD xs ByteArray.empty i hi)
    obtain ⟨K1, g1⟩ := ref07_Items [xs.getD i ByteArray.empty] (by rw [sumS_cons]; show _ + 0 ≤ _; omega)
    rw [itemsL_one] at g1
    dsimp only at g1
    have step : ∀ k, K1 ≤ k → catchpitref07_Length.l0 (k + 1) xs (bigN P) (alikeN (nums P)) (lastN (nums P)) (i : Int) = if ((itemsP (xs.getD i ByteArray.empty)).length : Int) = 0 then some (0, 2) else catchpitref07_Length.l1 k xs (bigN P) (alikeN (nums P)) (lastN (nums P)) (i : Int) (itemsP (xs.getD i ByteArray.empty)) 0 := by
      intro k hk
      rw [catchpitref07_Length.l0, if_pos (by omega), if_pos (by omega), hw, if_pos (by omega), if_pos (by omega), Int.toNat_natCast, Int.toNat_natCast, hcut, g1 k hk, Option.bind_some]
    by_cases he : itemsP (xs.getD i ByteArray.empty) = []
    · rw [lenR_bad xs h0 (.inr ⟨i, hi, he⟩)]
      refine ev_succ ⟨K1, fun k hk => ?_⟩
      show catchpitref07_Length.l0 (k + 1) _ _ _ _ _ = _
      rw [step k hk, he, if_pos (show (([] : List ByteArray).length : Int) = 0 from rfl)]
    · have hln : (itemsP (xs.getD i ByteArray.empty)).length ≠ 0 := fun h => he (List.length_eq_zero_iff.1 h)
      have hT : P ++ (itemsP (xs.getD i ByteArray.empty)).map (fun y => (i, y)) = itemsF 0 (xs.take (i + 1)) := by
        rw [itemsF_take xs 0 i hi, hP, Nat.zero_add]
      obtain ⟨K2, g2⟩ := ref07_Length_l1 xs h0 hS i hi (itemsP (xs.getD i ByteArray.empty)) rfl P hP (fun hpos e => by
          obtain ⟨a, r, hq⟩ := List.exists_cons_of_ne_nil (hall 0 hpos)
          have := (mem_itemsF (xs.take i) 0 (0, a)).2 ⟨0, by rw [List.length_take]; omega, rfl, by
            rw [show (xs.take i).getD 0 ByteArray.empty = xs.getD 0 ByteArray.empty by rw [List.getD_eq_getElem?_getD, List.getD_eq_getElem?_getD, List.getElem?_take, if_pos hpos], hq]; exact List.mem_cons_self⟩
          rw [← hP, e] at this
          exact absurd this List.not_mem_nil)
        (fun hb2 => by
          rw [hT] at hb2 ⊢
          rw [hw]
          exact ih (i + 1) (itemsF 0 (xs.take (i + 1))) (by omega) (by omega) rfl hb2 (fun j hj => by
            rcases Nat.lt_or_ge j i with h | h
            · exact hall j h
            · obtain rfl : j = i := by omega
              exact he))
        (itemsP (xs.getD i ByteArray.empty)).length 0 P (Nat.zero_le _) rfl (by simp) hb
      dsimp only at g2
      refine ev_succ ⟨K1 + K2, fun k hk => ?_⟩
      show catchpitref07_Length.l0 (k + 1) _ _ _ _ _ = _
      rw [step k (by omega), if_neg (by omega)]
      exact g2 k (by omega)
theorem ref07_Length (xs : List ByteArray) (hS : sumS xs ≤ 100000000) : Ev (fun k => catchpitref07_Length.f k xs) (lenR xs) := by
  by_cases h0 : xs.length = 0
  · refine ⟨0, fun k _ => ?_⟩
    show catchpitref07_Length.f k xs = _
    unfold catchpitref07_Length.f lenR
    rw [if_pos (by omega), if_pos h0]
  · have g := ref07_Length_l0 xs h0 hS xs.length 0 [] (Nat.zero_le _) rfl rfl rfl (fun j hj => absurd hj (Nat.not_lt_zero _))
    refine ev_as g fun k => ?_
    unfold catchpitref07_Length.f
    rw [if_neg (by omega)]
    rfl
end Go.Proofs.YtoanmbhenmlboaaDoorH
end
section
namespace Go.Proofs.YtoanmbhenmlboaaDoorH
open Go.RowKit Go.Proofs.YtoanmbhenmlboaaDoorW.PrintWords Go.Proofs.YtoanmbhenmlboaaDoorW.PrintLast Go.Proofs.YtoanmbhenmlboaaDoorW.PrintMore Go.Proofs.YtoanmbhenmlboaaDoor.Pr
def nTE : ByteArray := ⟨#[84, 114, 97, 110, 115, 102, 101, 114, 45, 69, 110, 99, 111, 100, 105, 110, 103]⟩
def nCL : ByteArray := ⟨#[67, 111, 110, 116, 101, 110, 116, 45, 76, 101, 110, 103, 116, 104]⟩
def nte : ByteArray := ⟨#[116, 114, 97, 110, 115, 102, 101, 114, 45, 101, 110, 99, 111, 100, 105, 110, 103]⟩
def ncl : ByteArray := ⟨#[99, 111, 110, 116, 101, 110, 116, 45, 108, 101, 110, 103, 116, 104]⟩
def kCh : ByteArray := ⟨#[99, 104, 117, 110, 107, 101, 100]⟩
theorem kCh_list : kCh.toList = ([99, 104, 117, 110, 107, 101, 100] : List UInt8) := by rw [ByteArray.toList_eq]; rfl
theorem is_kCh (y : ByteArray) : (y.toList = ([99, 104, 117, 110, 107, 101, 100] : List UInt8)) ↔ y = kCh := by rw [← kCh_list]; exact eq_toList y kCh
theorem getL_alike (l : List Fld) (a b : ByteArray) (h : smallS a = smallS b) : getL l a = getL l b := by
  unfold getL isB alikeB
  rw [h]
theorem nTE_small : smallS nTE = smallS nte := by decide +kernel
theorem nCL_small : smallS nCL = smallS ncl := by decide +kernel
theorem getL_te (l : List Fld) : getL l nte = getL l nTE := getL_alike l _ _ nTE_small.symm
theorem getL_cl (l : List Fld) : getL l ncl = getL l nCL := getL_alike l _ _ nCL_small.symm
theorem sumS_getL (n : ByteArray) : ∀ l : List Fld, sumS (getL l n) ≤ sumF l
  | [] => Nat.le_refl _
  | x :: l => by
    have ih := sumS_getL n l
    unfold getL at ih ⊢
    rw [sumF_cons]
    cases h : isB x n with
    | true => rw [List.filter_cons_of_pos (p := fun x => isB x n) h, List.map_cons, sumS_cons]; omega
    | false => rw [List.filter_cons_of_neg (p := fun x => isB x n) (by simp [h])]; omega
def sizedR (l : List Fld) (o : Int) : Int × Int × Int :=
  if (getL l nCL).length = 0 then (o, 0, 0) else if (lenR (getL l nCL)).2 = 0 then (1, (lenR (getL l nCL)).1, 0) else (0, 0, (lenR (getL l nCL)).2)
theorem lenR_nil {xs : List ByteArray} (h : xs.length = 0) : lenR xs = (0, 7) := by unfold lenR; rw [if_pos h]
theorem lenR_seven {xs : List ByteArray} (h : xs.length ≠ 0) : (lenR xs).2 ≠ 7 := by
  unfold lenR
  rw [if_neg h]
  repeat' split
  all_goals first
    | decide
    | (show (0 : Int) ≠ 7; decide)
def codedR (l : List Fld) : Int := if 0 < (getL l nCL).length then 2 else (codR (getL l nTE)).2
def requestR (l : List Fld) : Int × Int × Int :=
  if (getL l nTE).length = 0 then sizedR l 0 else if codedR l = 0 ∧ (codR (getL l nTE)).1 = [kCh] then (2, 0, 0) else (0, 0, 2)
section
variable (l : List Fld) (hl : Small1 l) (hs : sumF l ≤ 3000)
include hl hs
theorem getL_eq (n : ByteArray) (hn : n.size ≤ 1000) : field_Get.f l n = some (getL l n) := field_Get_eq l n hl (by omega) (by have := sumF_length l; omega)
theorem codings_eq : framing_codings.f l = some (if (getL l nTE).length = 0 then ([], false, 0) else ((codR (getL l nTE)).1, true, codedR l)) := by
  have h1 := sumS_getL nTE l
  unfold framing_codings.f
  show (field_Get.f l nTE).bind _ = _
  rw [getL_eq l hl hs nTE (by decide), Option.bind_some]
  by_cases h : (getL l nTE).length = 0
  · rw [if_pos (by omega), if_pos h]
  · rw [if_neg (by omega), if_neg h]
    unfold list_Codings.f
    rw [if_pos (by omega), Option.bind_some]
    show (field_Get.f l nCL).bind _ = _
    rw [getL_eq l hl hs nCL (by decide), Option.bind_some]
    unfold codedR
    by_cases h2 : 0 < (getL l nCL).length
    · rw [if_pos (by omega), if_pos h2]
    · rw [if_neg (by omega), if_neg h2]
theorem sized_eq (o : Int) : framing_sized.f l o = some (sizedR l o) := by
  have h1 := sumS_getL nCL l
  unfold framing_sized.f
  show (field_Get.f l nCL).bind _ = _
  rw [getL_eq l hl hs nCL (by decide), Option.bind_some]
  unfold list_Length.f sizedR
  rw [if_pos (by omega), Option.bind_some]
  by_cases h : (getL l nCL).length = 0
  · rw [if_pos h, lenR_nil h, if_neg (by decide), if_pos rfl]
  · have h7 := lenR_seven h
    rw [if_neg h]
    by_cases h0 : (lenR (getL l nCL)).2 = 0
    · rw [if_pos h0, if_pos h0, h0]
    · rw [if_neg h0, if_neg h0, if_neg h7]
theorem ref_sized (o : Int) : Ev (fun k => catchpitref11_length.f k l o) (sizedR l o) := by
  have h1 := sumS_getL nCL l
  obtain ⟨K1, g1⟩ := ref05_Get l ncl hl (by decide) (by have := sumF_length l; omega)
  obtain ⟨K2, g2⟩ := ref07_Length (getL l nCL) (by omega)
  dsimp only at g1 g2
  rw [getL_cl] at g1
  refine ⟨K1 + K2, fun k hk => ?_⟩
  show (catchpitref05_Get.f k l ncl).bind _ = _
  rw [g1 k (by omega), Option.bind_some]
  unfold sizedR
  by_cases h : (getL l nCL).length = 0
  · rw [if_pos (by omega), if_pos h]
  · rw [if_neg (by omega), if_neg h, g2 k (by omega), Option.bind_some]
    by_cases h0 : (lenR (getL l nCL)).2 = 0
    · rw [if_pos h0, if_pos h0]
    · rw [if_neg h0, if_neg h0]
end
theorem rdOf_at (l : List ByteArray) (i : Nat) : rdOf ByteArray.empty l (i : Int) = l.getD i ByteArray.empty := by
  unfold rdOf
  rw [Int.toNat_natCast]
theorem drop_eq_step (a b : List ByteArray) (i : Nat) (h1 : i < a.length) (h2 : i < b.length) : (a.drop i = b.drop i) ↔ (a.getD i ByteArray.empty = b.getD i ByteArray.empty ∧ a.drop (i + 1) = b.drop (i + 1)) := by
  rw [drop_cons a ByteArray.empty i h1, drop_cons b ByteArray.empty i h2, List.cons.injEq]
theorem equal_ev (a b : List ByteArray) (ha : a.length ≤ 100000000) : Ev (fun k => slices_Equal_string_string.f k a b) (decide (a = b)) := by
  by_cases hlen : a.length = b.length
  · have hl0 : ∀ d i k : Nat, i ≤ a.length → a.length - i = d → d < k → slices_Equal_string_string.l0 k a b (a.length : Int) (i : Int) = some (decide (a.drop i = b.drop i)) := by
      intro d
      induction d with
      | zero =>
        intro i k h1 h2 h3
        obtain ⟨k, rfl⟩ : ∃ m, k = m + 1 := ⟨k - 1, by omega⟩
        rw [slices_Equal_string_string.l0, if_neg (by omega), List.drop_eq_nil_of_le (by omega), List.drop_eq_nil_of_le (by omega)]
        rfl
      | succ d ih =>
        intro i k h1 h2 h3
        obtain ⟨k, rfl⟩ : ∃ m, k = m + 1 := ⟨k - 1, by omega⟩
        have hst := drop_eq_step a b i (by omega) (by omega)
        rw [slices_Equal_string_string.l0, if_pos (by omega), if_pos (by omega), if_pos (by omega), if_pos (by omega), rdOf_at, rdOf_at, show wrap64 ((i : Int) + 1) = ((i + 1 : Nat) : Int) by unfold wrap64; omega]
        by_cases he : a.getD i ByteArray.empty = b.getD i ByteArray.empty
        · rw [if_pos ((eq_toList _ _).2 he), ih (i + 1) k (by omega) (by omega) (by omega)]
          congr 1
          rw [decide_eq_decide, hst]
          exact ⟨fun h => ⟨he, h⟩, fun h => h.2⟩
        · rw [if_neg (fun h => he ((eq_toList _ _).1 h))]
          congr 1
          rw [eq_comm, decide_eq_false_iff_not, hst]
          exact fun h => he h.1
    refine ⟨a.length + 1, fun k hk => ?_⟩
    show slices_Equal_string_string.f k a b = _
    rw [slices_Equal_string_string.f, if_pos (by omega)]
    exact hl0 a.length 0 k (by omega) (by omega) (by omega)
  · refine ⟨0, fun k hk => ?_⟩
    show slices_Equal_string_string.f k a b = _
    rw [slices_Equal_string_string.f, if_neg (by omega)]
    congr 1
    rw [eq_comm, decide_eq_false_iff_not]
    rintro rfl
    exact hlen rfl
def AtR (c : List ByteArray) (x : ByteArray) (r : Int) : Prop := (r = -1 ∧ x ∉ c) ∨ ∃ p t, c = p ++ x :: t ∧ x ∉ p ∧ r = (p.length : Int)
theorem index_ev (c : List ByteArray) (x : ByteArray) (hc : c.length ≤ 100000000) : ∃ r, AtR c x r ∧ Ev (fun k => slices_Index_string_string.f k c x) r := by
  have hl0 : ∀ d i : Nat, i ≤ c.length → c.length - i = d → x ∉ c.take i → ∃ r, AtR c x r ∧ Ev (fun k => slices_Index_string_string.l0 k c x (c.length : Int) (i : Int)) r := by
    intro d
    induction d with
    | zero =>
      intro i h1 h2 h3
      rw [List.take_of_length_le (by omega)] at h3
      refine ⟨-1, .inl ⟨rfl, h3⟩, ev_succ ⟨0, fun k _ => ?_⟩⟩
      show slices_Index_string_string.l0 (k + 1) c x _ _ = _
      rw [slices_Index_string_string.l0, if_neg (by omega)]
    | succ d ih =>
      intro i h1 h2 h3
      by_cases he : x = c.getD i ByteArray.empty
      · refine ⟨(i : Int), .inr ⟨c.take i, c.drop (i + 1), ?_, h3, ?_⟩, ev_succ ⟨0, fun k _ => ?_⟩⟩
        · rw [he, ← drop_cons c ByteArray.empty i (by omega), List.take_append_drop]
        · rw [List.length_take]; omega
        · show slices_Index_string_string.l0 (k + 1) c x _ _ = _
          rw [slices_Index_string_string.l0, if_pos (by omega), if_pos (by omega), if_pos (by omega), rdOf_at, if_pos ((eq_toList _ _).2 he)]
      · obtain ⟨r, hr, he2⟩ := ih (i + 1) (by omega) (by omega) (by
          rw [take_one c ByteArray.empty i (by omega), List.mem_append, List.mem_singleton]
          exact fun h => h.elim h3 he)
        refine ⟨r, hr, ev_succ (ev_as he2 fun k => ?_)⟩
        rw [slices_Index_string_string.l0, if_pos (by omega), if_pos (by omega), if_pos (by omega), rdOf_at, if_neg (fun h => he ((eq_toList _ _).1 h)), show wrap64 ((i : Int) + 1) = ((i + 1 : Nat) : Int) by unfold wrap64; omega]
  exact hl0 c.length 0 (by omega) (by omega) (by simp)
section
variable (l : List Fld) (hl : Small1 l) (hs : sumF l ≤ 3000)
include hl hs
omit hl in
theorem codes_length : (codR (getL l nTE)).1.length ≤ 1000000 := codR_length _ (by have := sumS_getL nTE l; omega)
theorem request_ev : Ev (fun k => framing_Request.f k l) (requestR l) := by
  obtain ⟨K, g⟩ := equal_ev (codR (getL l nTE)).1 [kCh] (by have := codes_length l hs; omega)
  dsimp only at g
  refine ⟨K, fun k hk => ?_⟩
  show framing_Request.f k l = _
  unfold framing_Request.f requestR
  rw [codings_eq l hl hs, Option.bind_some]
  by_cases h : (getL l nTE).length = 0
  · rw [if_pos h, if_pos h, if_neg (by decide), sized_eq l hl hs, Option.bind_some]
  · rw [if_neg h, if_neg h, if_pos rfl]
    by_cases h0 : codedR l = 0
    · rw [if_pos h0]
      have := g k hk
      rw [show ([(⟨#[99, 104, 117, 110, 107, 101, 100]⟩ : ByteArray)] : List ByteArray) = [kCh] from rfl, this, Option.bind_some]
      by_cases h1 : (codR (getL l nTE)).1 = [kCh]
      · rw [if_pos (decide_eq_true h1), if_pos ⟨h0, h1⟩]
      · rw [if_neg (by rw [decide_eq_false h1]; decide), if_neg (fun h => h1 h.2)]
    · rw [if_neg h0, if_neg (fun h => h0 h.1)]
end
def bodyless (m : ByteArray) (s : Int) : Bool := (catchpitref11_Bodiless.f m s).getD false
theorem ref_bodiless (m : ByteArray) (s : Int) : catchpitref11_Bodiless.f m s = some (bodyless m s) := by
  unfold bodyless catchpitref11_Bodiless.f
  repeat' split
  all_goals rfl
theorem bodiless_ev (m : ByteArray) (s : Int) : Ev (fun k => framing_Bodiless.f k m s) (bodyless m s) := by
  refine ⟨2, fun k hk => ?_⟩
  obtain ⟨k, rfl⟩ : ∃ j, k = j + 2 := ⟨k - 2, by omega⟩
  show framing_Bodiless.f (k + 2) m s = _
  rw [← ref_bodiless]
  unfold framing_Bodiless.f catchpitref11_Bodiless.f
  simp only [framing_Bodiless.j0, framing_Bodiless.j1]
  by_cases hP : m.toList = ([72, 69, 65, 68] : List UInt8)
  · have hQ : (m.toList = ([67, 79, 78, 78, 69, 67, 84] : List UInt8)) = False := by rw [hP]; exact eq_false (by decide)
    have hb : (m.toList == ([72, 69, 65, 68] : List UInt8)) = true := by rw [beq_iff_eq]; exact hP
    have hP' := eq_true hP
    clear hP
    simp only [hP', hQ, hb, if_true, if_false, decide_eq_true_eq, beq_iff_eq, Bool.false_eq_true]
    repeat' split
    all_goals first
      | rfl
      | (exfalso; omega)
  · have hb : (m.toList == ([72, 69, 65, 68] : List UInt8)) = false := by rw [beq_eq_false_iff_ne]; exact hP
    have hP' := eq_false hP
    clear hP
    by_cases hQ : m.toList = ([67, 79, 78, 78, 69, 67, 84] : List UInt8)
    · have hQ' := eq_true hQ
      clear hQ
      simp only [hP', hQ', hb, if_true, if_false, decide_eq_true_eq, beq_iff_eq, Bool.false_eq_true]
      repeat' split
      all_goals first
        | rfl
        | (exfalso; omega)
        | (congr 1; rw [eq_comm, decide_eq_true_iff]; omega)
        | (congr 1; rw [eq_comm, decide_eq_false_iff_not]; omega)
    · have hQ' := eq_false hQ
      clear hQ
      simp only [hP', hQ', hb, if_true, if_false, decide_eq_true_eq, beq_iff_eq, Bool.false_eq_true]
      repeat' split
      all_goals first
        | rfl
        | (exfalso; omega)
def cntC : List ByteArray → Nat
  | [] => 0
  | y :: l => if y = kCh then cntC l + 1 else cntC l
theorem cntC_append : ∀ a b : List ByteArray, cntC (a ++ b) = cntC a + cntC b
  | [], b => by rw [List.nil_append]; exact (Nat.zero_add _).symm
  | y :: a, b => by
    rw [List.cons_append, cntC, cntC, cntC_append a b]
    split <;> omega
theorem cntC_none : ∀ a : List ByteArray, kCh ∉ a → cntC a = 0
  | [], _ => rfl
  | y :: a, h => by
    rw [cntC, if_neg (fun e => h (by rw [e]; exact List.mem_cons_self)), cntC_none a (fun e => h (List.mem_cons_of_mem _ e))]
theorem cntC_le : ∀ a : List ByteArray, cntC a ≤ a.length
  | [] => Nat.le_refl _
  | y :: a => by
    have := cntC_le a
    rw [cntC, List.length_cons]
    split <;> omega
theorem cntC_one (y : ByteArray) : cntC [y] = if y = kCh then 1 else 0 := rfl
def respC (c : List ByteArray) : Int × Int × Int :=
  if cntC c = 0 then (3, 0, 0) else if 1 < cntC c ∨ c.getLastD ByteArray.empty ≠ kCh then (0, 0, 2) else if 1 < c.length then (0, 0, 5) else (2, 0, 0)
def responseR (m : ByteArray) (s : Int) (l : List Fld) : Int × Int × Int :=
  if s < 100 ∨ 999 < s then (0, 0, 1) else if bodyless m s = true then (0, 0, 0) else if (getL l nTE).length = 0 then sizedR l 3
  else if codedR l = 0 then respC (codR (getL l nTE)).1 else (0, 0, 2)
theorem respC_at (c : List ByteArray) (r : Int) (h : AtR c kCh r) (hc : c.length ≤ 100000000) :
    respC c = if r ≥ 0 ∧ r < wrap64 ((c.length : Int) - 1) then (0, 0, 2) else if r < 0 then (3, 0, 0) else if r > 0 then (0, 0, 5) else (2, 0, 0) := by
  have hw : wrap64 ((c.length : Int) - 1) = (c.length : Int) - 1 := by unfold wrap64; omega
  rw [hw]
  unfold respC
  rcases h with ⟨rfl, h⟩ | ⟨p, t, rfl, hp, rfl⟩
  · rw [if_pos (cntC_none _ h), if_neg (by omega), if_pos (by omega)]
  · have h1 : cntC (p ++ kCh :: t) = cntC t + 1 := by
      rw [cntC_append, cntC_none p hp, cntC, if_pos rfl, Nat.zero_add]
    have h2 : (p ++ kCh :: t).length = p.length + (t.length + 1) := by rw [List.length_append, List.length_cons]
    rw [h1, h2, if_neg (by omega)]
    rcases List.eq_nil_or_concat t with rfl | ⟨t', z, rfl⟩
    · have h3 : (p ++ [kCh]).getLastD ByteArray.empty = kCh := by rw [List.getLastD_eq_getLast?, List.getLast?_concat]; rfl
      have h8 : cntC [] = 0 := rfl
      have h9 : ([] : List ByteArray).length = 0 := rfl
      rw [h3, h8, h9, if_neg (show ¬ (1 < 0 + 1 ∨ kCh ≠ kCh) from fun h => h.elim (fun h => absurd h (by decide)) (fun h => h rfl))]
      repeat' split
      all_goals first
        | rfl
        | (exfalso; omega)
    · have h3 : (p ++ kCh :: (t'.concat z)).getLastD ByteArray.empty = z := by
        rw [List.concat_eq_append, ← List.cons_append, ← List.append_assoc, List.getLastD_eq_getLast?, List.getLast?_concat]
        rfl
      have h5 : 1 < cntC (t'.concat z) + 1 ∨ (p ++ kCh :: (t'.concat z)).getLastD ByteArray.empty ≠ kCh := by
        rw [h3]
        by_cases hz : z = kCh
        · refine .inl ?_
          rw [hz, List.concat_eq_append, cntC_append, cntC_one, if_pos rfl]
          omega
        · exact .inr hz
      have h6 : (t'.concat z).length = t'.length + 1 := by rw [List.concat_eq_append, List.length_append]; rfl
      rw [if_pos h5, if_pos (by rw [h6]; omega)]
theorem ref_resp_l0 (c : List ByteArray) (hc : c.length ≤ 100000000) : ∀ d i : Nat, i ≤ c.length → c.length - i = d →
    Ev (fun k => catchpitref11_Response.l0 k c (cntC (c.take i) : Int) (i : Int)) (respC c) := by
  intro d
  induction d with
  | zero =>
    intro i h1 h2
    rw [List.take_of_length_le (by omega)]
    refine ev_succ (ev_succ ⟨0, fun k _ => ?_⟩)
    show catchpitref11_Response.l0 (k + 1 + 1) c _ _ = _
    have hcnt : cntC c ≤ c.length := cntC_le _
    have hw : ∀ h : 0 < c.length, wrap64 ((c.length : Int) - 1) = ((c.length - 1 : Nat) : Int) := fun h => by unfold wrap64; omega
    rw [catchpitref11_Response.l0, if_neg (by omega)]
    unfold respC
    by_cases h0 : cntC c = 0
    · rw [if_pos (by omega), if_pos h0]
    · rw [if_neg (by omega), if_neg h0]
      by_cases h3 : 1 < cntC c
      · rw [if_pos (by omega), if_pos (.inl h3), catchpitref11_Response.j3, if_pos rfl]
      · have hl : c.getLastD ByteArray.empty = c.getD (c.length - 1) ByteArray.empty := by
          rw [List.getLastD_eq_getLast?, List.getLast?_eq_getElem?, List.getD_eq_getElem?_getD]
        rw [if_neg (by omega), hw (by omega), if_pos (by omega), if_pos (by omega), catchpitref11_Response.j3, rdOf_at, ← hl]
        by_cases h4 : c.getLastD ByteArray.empty = kCh
        · rw [if_neg (by rw [bne_iff_ne]; exact fun h => h ((is_kCh _).2 h4)), if_neg (show ¬ (1 < cntC c ∨ c.getLastD ByteArray.empty ≠ kCh) from fun h => h.elim h3 (fun h => h h4))]
          by_cases h5 : 1 < c.length
          · rw [if_pos (by omega), if_pos h5]
          · rw [if_neg (by omega), if_neg h5]
        · rw [if_pos (by rw [bne_iff_ne]; exact fun h => h4 ((is_kCh _).1 h)), if_pos (.inr h4)]
  | succ d ih =>
    intro i h1 h2
    have g := ih (i + 1) (by omega) (by omega)
    have hcnt : cntC (c.take i) ≤ i := Nat.le_trans (cntC_le _) (by rw [List.length_take]; omega)
    rw [take_one c ByteArray.empty i (by omega), cntC_append, cntC_one] at g
    have hw1 : wrap64 ((i : Int) + 1) = ((i + 1 : Nat) : Int) := by unfold wrap64; omega
    by_cases h : c.getD i ByteArray.empty = kCh
    · have hw2 : wrap64 ((cntC (c.take i) : Int) + 1) = ((cntC (c.take i) + 1 : Nat) : Int) := by unfold wrap64; omega
      rw [if_pos h] at g
      refine ev_succ (ev_as g fun k => ?_)
      rw [catchpitref11_Response.l0, if_pos (by omega), if_pos (by omega), rdOf_at, hw1, if_pos ((is_kCh _).2 h), hw2]
    · rw [if_neg h, Nat.add_zero] at g
      refine ev_succ (ev_as g fun k => ?_)
      rw [catchpitref11_Response.l0, if_pos (by omega), if_pos (by omega), rdOf_at, hw1, if_neg (fun e => h ((is_kCh _).1 e))]
section
variable (m : ByteArray) (s : Int) (l : List Fld) (hl : Small1 l) (hs : sumF l ≤ 3000)
include hl hs
theorem response_ev : Ev (fun k => framing_Response.f k m s l) (responseR m s l) := by
  obtain ⟨r, hr, K1, g1⟩ := index_ev (codR (getL l nTE)).1 kCh (by have := codes_length l hs; omega)
  obtain ⟨K2, g2⟩ := bodiless_ev m s
  have hR := respC_at _ r hr (by have := codes_length l hs; omega)
  dsimp only at g1 g2
  refine ⟨K1 + K2 + 3, fun k hk => ?_⟩
  obtain ⟨k, rfl⟩ : ∃ j, k = j + 2 := ⟨k - 2, by omega⟩
  show framing_Response.f (k + 2) m s l = _
  have e : framing_Response.f (k + 2) m s l = framing_Response.j0 (k + 1 + 1) m s l (decide (s < 100 ∨ 999 < s)) := by
    unfold framing_Response.f
    by_cases h : s < 100
    · rw [if_pos h, decide_eq_true (.inl h)]
    · rw [if_neg h]
      congr 1
      rw [decide_eq_decide]
      omega
  rw [e, framing_Response.j0]
  unfold responseR
  by_cases h : s < 100 ∨ 999 < s
  · rw [if_pos (decide_eq_true h), if_pos h]
  · rw [if_neg (by rw [decide_eq_false h]; decide), if_neg h, g2 _ (by omega), Option.bind_some]
    by_cases hb : bodyless m s = true
    · rw [if_pos hb, if_pos hb]
    · rw [if_neg hb, if_neg hb, codings_eq l hl hs, Option.bind_some]
      by_cases h0 : (getL l nTE).length = 0
      · rw [if_pos h0, if_pos h0, if_neg (by decide), sized_eq l hl hs, Option.bind_some]
      · rw [if_neg h0, if_neg h0, if_pos rfl]
        show (slices_Index_string_string.f (k + 1) (codR (getL l nTE)).1 kCh).bind _ = _
        rw [g1 _ (by omega), Option.bind_some]
        have hj : ∀ b : Bool, framing_Response.j1 (k + 1) r b = some (if b = true then (0, 0, 2) else if r < 0 then (3, 0, 0) else if r > 0 then (0, 0, 5) else (2, 0, 0)) := by
          intro b
          rw [framing_Response.j1]
          repeat' split
          all_goals rfl
        by_cases h1 : codedR l = 0
        · rw [if_pos h1, if_pos h1, hR]
          by_cases h2 : r ≥ 0
          · rw [if_pos h2, hj]
            congr 1
            by_cases h3 : r < wrap64 (((codR (getL l nTE)).1.length : Int) - 1)
            · rw [if_pos (decide_eq_true h3), if_pos ⟨h2, h3⟩]
            · rw [if_neg (by rw [decide_eq_false h3]; decide), if_neg (show ¬ (r ≥ 0 ∧ r < wrap64 (((codR (getL l nTE)).1.length : Int) - 1)) from fun h => h3 h.2)]
          · rw [if_neg h2, hj, if_neg (by decide), if_neg (show ¬ (r ≥ 0 ∧ r < wrap64 (((codR (getL l nTE)).1.length : Int) - 1)) from fun h => h2 h.1)]
        · rw [if_neg h1, if_neg h1, hj, if_pos (by rw [bne_iff_ne]; exact h1)]
theorem ref_response : Ev (fun k => catchpitref11_Response.f k m s l) (responseR m s l) := by
  have hq := sumS_getL nTE l
  obtain ⟨K1, g1⟩ := ref05_Get l nte hl (by decide) (by have := sumF_length l; omega)
  obtain ⟨K2, g2⟩ := ref05_Get l ncl hl (by decide) (by have := sumF_length l; omega)
  obtain ⟨K3, g3⟩ := ref_sized l hl hs 3
  obtain ⟨K4, g4⟩ := ref07_Codings (getL l nTE) (by omega)
  obtain ⟨K5, g5⟩ := ref_resp_l0 (codR (getL l nTE)).1 (by have := codes_length l hs; omega) _ 0 (Nat.zero_le _) rfl
  dsimp only at g1 g2 g3 g4 g5
  rw [getL_te] at g1
  rw [getL_cl] at g2
  refine ⟨K1 + K2 + K3 + K4 + K5 + 3, fun k hk => ?_⟩
  obtain ⟨k, rfl⟩ : ∃ j, k = j + 2 := ⟨k - 2, by omega⟩
  show catchpitref11_Response.f (k + 2) m s l = _
  have e : catchpitref11_Response.f (k + 2) m s l = catchpitref11_Response.j0 (k + 1 + 1) m s l (decide (s < 100 ∨ 999 < s)) := by
    unfold catchpitref11_Response.f
    by_cases h : s < 100
    · rw [if_pos h, decide_eq_true (.inl h)]
    · rw [if_neg h]
      congr 1
      rw [decide_eq_decide]
      omega
  rw [e, catchpitref11_Response.j0]
  unfold responseR
  by_cases h : s < 100 ∨ 999 < s
  · rw [if_pos (decide_eq_true h), if_pos h]
  · rw [if_neg (by rw [decide_eq_false h]; decide), if_neg h, ref_bodiless, Option.bind_some]
    by_cases hb : bodyless m s = true
    · rw [if_pos hb, if_pos hb]
    · rw [if_neg hb, if_neg hb]
      show (catchpitref05_Get.f (k + 1) l nte).bind _ = _
      rw [g1 _ (by omega), Option.bind_some]
      by_cases h0 : (getL l nTE).length = 0
      · rw [if_pos (by omega), if_pos h0, g3 _ (by omega), Option.bind_some]
      · rw [if_neg (by omega), if_neg h0, g4 _ (by omega), Option.bind_some]
        unfold codedR
        by_cases h1 : (codR (getL l nTE)).2 = 0
        · rw [if_pos h1]
          show (catchpitref05_Get.f (k + 1) l ncl).bind _ = _
          rw [g2 _ (by omega), Option.bind_some, catchpitref11_Response.j1]
          by_cases h2 : 0 < (getL l nCL).length
          · rw [if_pos (decide_eq_true (by omega)), if_pos h2, if_neg (by decide)]
          · rw [if_neg (by rw [decide_eq_false (by omega)]; decide), if_neg h2, if_pos h1]
            exact g5 k (by omega)
        · rw [if_neg h1, catchpitref11_Response.j1, if_pos rfl]
          by_cases h2 : 0 < (getL l nCL).length
          · rw [if_pos h2, if_neg (by decide)]
          · rw [if_neg h2, if_neg h1]
end
theorem wakes11 : Ev (fun k => catchpitlaw11_wakes.f k) true := by
  have hsm : Small1 (([(⟨nTE, kCh⟩ : Fld), (⟨nCL, (⟨#[53]⟩ : ByteArray)⟩ : Fld)] : List Fld)) := by
    intro y hy
    rcases List.mem_cons.1 hy with rfl | hy
    · exact ⟨by decide, by decide⟩
    · rw [List.mem_singleton.1 hy]
      exact ⟨by decide, by decide⟩
  obtain ⟨K1, g1⟩ := request_ev (([(⟨nTE, kCh⟩ : Fld), (⟨nCL, (⟨#[53]⟩ : ByteArray)⟩ : Fld)] : List Fld)) hsm (by decide)
  obtain ⟨K2, g2⟩ := response_ev (⟨#[71, 69, 84]⟩ : ByteArray) 204 [] (fun y hy => by cases hy) (by decide)
  dsimp only at g1 g2
  rw [show requestR (([(⟨nTE, kCh⟩ : Fld), (⟨nCL, (⟨#[53]⟩ : ByteArray)⟩ : Fld)] : List Fld)) = (0, 0, 2) by decide +kernel] at g1
  rw [show responseR (⟨#[71, 69, 84]⟩ : ByteArray) 204 [] = (0, 0, 0) by decide +kernel] at g2
  refine ⟨K1 + K2, fun k hk => ?_⟩
  show (framing_Request.f k (([(⟨nTE, kCh⟩ : Fld), (⟨nCL, (⟨#[53]⟩ : ByteArray)⟩ : Fld)] : List Fld))).bind _ = _
  rw [g1 k (by omega), Option.bind_some]
  show (framing_Response.f k (⟨#[71, 69, 84]⟩ : ByteArray) 204 []).bind _ = _
  rw [g2 k (by omega), Option.bind_some]
  rfl
end Go.Proofs.YtoanmbhenmlboaaDoorH
end
section
namespace Go.Proofs.YtoanmbhenmlboaaDoor.Pure
open Go.RowKit Go.Proofs.YtoanmbhenmlboaaDoorH Go.Proofs.YtoanmbhenmlboaaDoor.Pr Go.Proofs.YtoanmbhenmlboaaDoorW.PrintWords Go.Proofs.YtoanmbhenmlboaaDoorW.PrintLast
theorem FramingResponses (m : ByteArray) (s : Int) (l : List Fld) (hm : m.size ≤ 140737488351232) (hs : (Lit.int .i64 s).wf = true) (hl : l.length * 32 ≤ 140737488351232 ∧ ∀ y ∈ l, (y.f0.size ≤ 140737488351232 ∧ y.f1.size ≤ 140737488351232)) : ∃ k, catchpitlaw11_FramingResponses.f k m s l = some true := by
  have hl1 : Small1 l := hl.2
  obtain ⟨K1, g1⟩ := wakes11
  obtain ⟨K2, g2⟩ := ref05_Great l hl1 (by omega)
  dsimp only at g1 g2
  by_cases hg : 2000 < sumF l
  · refine ⟨K1 + K2 + 1, ?_⟩
    rw [catchpitlaw11_FramingResponses.f, g1 _ (by omega), Option.bind_some, if_pos rfl, g2 _ (by omega), Option.bind_some, if_pos (decide_eq_true hg), catchpitlaw11_FramingResponses.j0, if_pos rfl]
  · by_cases h2 : (m.size : Int) > 200
    · refine ⟨K1 + K2 + 1, ?_⟩
      rw [catchpitlaw11_FramingResponses.f, g1 _ (by omega), Option.bind_some, if_pos rfl, g2 _ (by omega), Option.bind_some, if_neg (by rw [decide_eq_false hg]; decide), catchpitlaw11_FramingResponses.j0, if_pos (decide_eq_true h2)]
    · obtain ⟨K3, g3⟩ := response_ev m s l hl1 (by omega)
      obtain ⟨K4, g4⟩ := ref_response m s l hl1 (by omega)
      obtain ⟨K5, g5⟩ := bodiless_ev m s
      dsimp only at g3 g4 g5
      refine ⟨K1 + K2 + K3 + K4 + K5 + 1, ?_⟩
      rw [catchpitlaw11_FramingResponses.f, g1 _ (by omega), Option.bind_some, if_pos rfl, g2 _ (by omega), Option.bind_some, if_neg (by rw [decide_eq_false hg]; decide), catchpitlaw11_FramingResponses.j0, if_neg (by rw [decide_eq_false h2]; decide), g3 _ (by omega), Option.bind_some, g4 _ (by omega), Option.bind_some, if_pos (by simp), if_pos rfl, g5 _ (by omega), Option.bind_some, ref_bodiless, Option.bind_some]
      simp
end Go.Proofs.YtoanmbhenmlboaaDoor.Pure
end
section
namespace Go.Proofs.YtoanmbhenmlboaaDoorH
open Go.RowKit Go.ChangeShapes Go.WideShapes Go.ChangeAt
theorem two_of {α : Type} {l : List α} (h : l.length = 2) : ∃ a b, l = [a, b] := by
  match l, h with
  | [a, b], _ => exact ⟨a, b, rfl⟩
theorem three_of {α : Type} {l : List α} (h : l.length = 3) : ∃ a b c, l = [a, b, c] := by
  match l, h with
  | [a, b, c], _ => exact ⟨a, b, c, rfl⟩
theorem six_of {α : Type} {l : List α} (h : l.length = 6) : ∃ a b c d e f, l = [a, b, c, d, e, f] := by
  match l, h with
  | [a, b, c, d, e, f], _ => exact ⟨a, b, c, d, e, f, rfl⟩
theorem cells_of_one {W : World} {cs : List Value} {y : DataW Unit × List MemPlace} {m : Nat} {x0 : Int}
    (hd : DataW.trod (fun _ => ()) Tryd.prog W 0 (fun _ => true) false m 5 cs = some y) (hy : y.1 = .lit (.int .u8 x0)) : cs = [.int .u8 x0] := by
  obtain ⟨n, e1, e2, _⟩ := DataW.trod_int Tryd.underlying5 hd
  rw [e2] at hy
  simp only [DataW.lit.injEq, Lit.int.injEq, true_and] at hy
  rw [e1, hy]
theorem cells_of_pair {W : World} {cs : List Value} {y : DataW Unit × List MemPlace} {m : Nat} {x0 x1 : Int}
    (hd : DataW.trod (fun _ => ()) Tryd.prog W 0 (fun _ => true) false m 114 cs = some y) (hy : y.1 = .agg [.lit (.int .u8 x0), .lit (.int .u8 x1)]) :
    cs = [.int .u8 x0, .int .u8 x1] := by
  have c5 : Tryd.prog.cellsOf 5 = 1 := by kernel_rfl
  have c2 : Tryd.prog.cellsOf 114 = 2 := by kernel_rfl
  obtain ⟨xs, m, _, ex, hn, hl, hel⟩ := DataW.trod_array Tryd.underlying114 hd
  rw [c2] at hn
  obtain ⟨a, b, rfl⟩ := two_of hn
  obtain ⟨u, v, rfl⟩ := two_of hl
  · rw [ex] at hy
    simp only [List.map_cons, List.map_nil, DataW.agg.injEq, List.cons.injEq, and_true] at hy
    have h0 := hel 0 (by omega)
    have h1 := hel 1 (by omega)
    simp only [c5] at h0 h1
    have e0 := cells_of_one (y := u) (by simpa using h0) hy.1
    have e1 := cells_of_one (y := v) (by simpa using h1) hy.2
    simp at e0 e1
    rw [e0, e1]
theorem cells_of_pairs {W : World} {cs : List Value} {y : DataW Unit × List MemPlace} {m : Nat} {x0 x1 x2 x3 x4 x5 : Int}
    (hd : DataW.trod (fun _ => ()) Tryd.prog W 0 (fun _ => true) false m 115 cs = some y)
    (hy : y.1 = .agg [.agg [.lit (.int .u8 x0), .lit (.int .u8 x1)], .agg [.lit (.int .u8 x2), .lit (.int .u8 x3)], .agg [.lit (.int .u8 x4), .lit (.int .u8 x5)]]) :
    cs = [.int .u8 x0, .int .u8 x1, .int .u8 x2, .int .u8 x3, .int .u8 x4, .int .u8 x5] := by
  have c2 : Tryd.prog.cellsOf 114 = 2 := by kernel_rfl
  have c6 : Tryd.prog.cellsOf 115 = 6 := by kernel_rfl
  obtain ⟨xs, m, _, ex, hn, hl, hel⟩ := DataW.trod_array Tryd.underlying115 hd
  rw [c6] at hn
  obtain ⟨a, b, c, d, e, f, rfl⟩ := six_of hn
  obtain ⟨u, v, z, rfl⟩ := three_of hl
  · rw [ex] at hy
    simp only [List.map_cons, List.map_nil, DataW.agg.injEq, List.cons.injEq, and_true] at hy
    have h0 := hel 0 (by omega)
    have h1 := hel 1 (by omega)
    have h2 := hel 2 (by omega)
    simp only [c2] at h0 h1 h2
    have e0 := cells_of_pair (y := u) (by simpa using h0) hy.1
    have e1 := cells_of_pair (y := v) (by simpa using h1) hy.2.1
    have e2 := cells_of_pair (y := z) (by simpa using h2) hy.2.2
    simp at e0 e1 e2
    rw [e0.1, e0.2, e1.1, e1.2, e2.1, e2.2]
theorem tabOk_of_laid {W : World} {L : List (String × DataW Unit)} (h : laidMetH Tryd.prog L W) (hp : (L.all fun x => x.2.handleName?.isNone) = true)
    (hf : L.filter (fun x => x.1 == "catchpit/octet.ends") = [("catchpit/octet.ends", Go.Proofs.YtoanmbhenmlboaaDoor.Rows.laid_catchpit_octet_ends)]) (hs : W.ShapedOpen Tryd.prog) : TabOk W := by
  rw [MakeChecks.laidMetH_plain _ _ _ hp] at h
  have h2 := laidMet.filter (fun x => x.1 == "catchpit/octet.ends") h
  rw [hf] at h2
  obtain ⟨ps, ⟨g, t, cs, fuel, p, q, hg, ht, hv, hd, _, _⟩, _, _⟩ := h2
  obtain rfl := Option.some.inj ((show Tryd.prog.globalNamed "catchpit/octet.ends" = some 0 by kernel_rfl).symm.trans hg)
  obtain rfl := Option.some.inj ((show (Tryd.prog.globals[0]?).map (·.type) = some 115 by kernel_rfl).symm.trans ht)
  have e := cells_of_pairs hd rfl
  have hc := World.var?_cell hg hv
  have at_ : ∀ j, cs[j]? = cs.toList[j]? := fun j => (Array.getElem?_toList ..).symm
  rw [e] at at_
  exact ⟨(hc 0).trans (at_ 0), (hc 1).trans (at_ 1), (hc 2).trans (at_ 2), (hc 3).trans (at_ 3), (hc 4).trans (at_ 4), (hc 5).trans (at_ 5), MxOk.of_shaped hs⟩
end Go.Proofs.YtoanmbhenmlboaaDoorH
end
section
namespace Go.Proofs.YtoanmbhenmlboaaDoorH
open Go.RowKit Go.ChangeShapes Go.WideShapes Go.ChangeAt Go.Proofs.YtoanmbhenmlboaaDoorW.PrintWords
def Light {H : Type} (P : Program) (t : TypeId) (d : DataW H) : Prop := ∀ x ∈ DataW.weights P t d, x ≤ reachBytes
structure Opens (P : Program) {α : Type} (d : Kd α) (t : TypeId) (G : α → Prop) : Prop where
  cells : P.cellsOf t = d.sz
  open_ : ∀ {H : Type} {enc : TypeId × Value → H} {W : World} {fuel : Nat} {cs : List Value} {x : DataW H × List MemPlace},
    DataW.trod enc P W 0 (fun _ => true) true fuel t cs = some x → Light P t x.1 → ∃ y, d.K W y cs ∧ G y
theorem Opens.int {P : Program} {t : TypeId} {k : IntKind} (hu : P.underlying t = some (.int k)) (hc : P.cellsOf t = 1) : Opens P (Kd.int k) t (fun n => (Lit.int k n).wf = true) := by
  refine ⟨hc, fun h _ => ?_⟩
  obtain ⟨n, e1, e2, wf⟩ := DataW.trod_int hu h
  exact ⟨n, e1, wf⟩
theorem Opens.bool {P : Program} {t : TypeId} (hu : P.underlying t = some .bool) (hc : P.cellsOf t = 1) : Opens P Kd.bool t (fun _ => True) := by
  refine ⟨hc, fun {_ _ _ fuel cs _} h _ => ?_⟩
  cases fuel with
  | zero => simp [DataW.trod] at h
  | succ m =>
    unfold DataW.trod at h
    rw [hu] at h
    match cs, h with
    | [.bool b], _ => exact ⟨b, rfl, trivial⟩
theorem Opens.string {P : Program} {t : TypeId} (hu : P.underlying t = some .string) (hc : P.cellsOf t = 1) : Opens P Kd.string t (fun s => s.size ≤ 140737488351232) := by
  refine ⟨hc, fun h hl => ?_⟩
  obtain ⟨s, e1, e2, _⟩ := DataW.trod_string hu h
  refine ⟨s, e1, ?_⟩
  subst e2
  have := hl s.data.toList.length (by simp [DataW.weights])
  rw [data_length] at this
  exact this
theorem weightsAll_mem {H : Type} (P : Program) (e : TypeId) : ∀ (l : List (DataW H)) (d : DataW H), d ∈ l → ∀ x ∈ DataW.weights P e d, x ∈ DataW.weightsAll P e l
  | [], d, h, _, _ => by cases h
  | a :: l, d, h, x, hx => by
    rw [DataW.weightsAll]
    rcases List.mem_cons.1 h with rfl | h
    · exact List.mem_append_left _ hx
    · exact List.mem_append_right _ (weightsAll_mem P e l d h x hx)
theorem list_of {α : Type} {p : Nat → α → Prop} : ∀ n : Nat, (∀ i, i < n → ∃ y, p i y) → ∃ l : List α, l.length = n ∧ ∀ i y, l[i]? = some y → p i y
  | 0, _ => ⟨[], rfl, fun i y h => by simp at h⟩
  | n + 1, h => by
    obtain ⟨l, hl, hp⟩ := list_of n (fun i hi => h i (by omega))
    obtain ⟨y, hy⟩ := h n (by omega)
    refine ⟨l ++ [y], by simp [hl], fun i z hz => ?_⟩
    rcases Nat.lt_or_ge i n with hi | hi
    · rw [List.getElem?_append_left (by omega)] at hz
      exact hp i z hz
    · rw [List.getElem?_append_right (by omega), hl] at hz
      rcases Nat.eq_zero_or_pos (i - n) with h0 | h0
      · rw [h0] at hz
        obtain rfl : i = n := by omega
        obtain rfl : y = z := by simpa using hz
        exact hy
      · rw [List.getElem?_eq_none (by simp; omega)] at hz
        cases hz
theorem add_add (a : Addr) (i j : Nat) : (a.add i).add j = a.add (i + j) := by
  unfold Addr.add
  by_cases h1 : i = 0
  · subst h1; simp
  · by_cases h2 : j = 0
    · subst h2; simp [h1]
    · simp [h1, h2, Nat.add_assoc]
theorem cells_at {W : World} {base : Nat} {a : Addr} {n : Nat} {cs : List Value} (h : W.cells? base a n = some cs) : cs.length = n ∧ ∀ (i : Nat) u, cs[i]? = some u → W.cell? (a.add i) = some u := by
  obtain ⟨_, hn, hc⟩ := World.cells?_some h
  refine ⟨hn, fun i u hu => ?_⟩
  have hi : i < n := by
    rcases Nat.lt_or_ge i n with hi | hi
    · exact hi
    · rw [List.getElem?_eq_none (by omega)] at hu; cases hu
  rw [hc i hi, hu]
theorem Opens.slice {P : Program} {α : Type} {d : Kd α} {t e : TypeId} {G : α → Prop} (h : Opens P d e G) (hu : P.underlying t = some (.slice e)) (hc : P.cellsOf t = 1) {B : Nat} (hB : P.bytesOf e = B) :
    Opens P (Kd.slice e d) t (fun l => l.length * B ≤ 140737488351232 ∧ ∀ y ∈ l, G y) := by
  refine ⟨hc, fun {H enc W fuel cs x} hx hl => ?_⟩
  rcases Deep.open_slice hu hx with ⟨rfl, rfl⟩ | ⟨a, len, cap, m, n, D, Pl, rfl, _, hle, hm, hmm, rfl, hel⟩
  · exact ⟨[], ⟨none, 0, rfl, Nat.le_refl _, rfl, by simp, fun h => by simp at h⟩, by simp, fun y hy => by cases hy⟩
  · simp only [if_true] at hmm
    subst hmm
    have hw : (len + (m - len)) * B ≤ 140737488351232 := by
      have := hl ((len + (m - len)) * B) (by
        unfold DataW.weights
        simp only [hu, hB]
        simp)
      exact this
    have hget : ∀ i, i < len → ∃ y, (∃ c, c.length = d.sz ∧ d.K W y c ∧ ∀ j u, c[j]? = some u → W.cell? (a.add (i * d.sz + j)) = some u) ∧ G y := by
      intro i hi
      obtain ⟨cs', h1, h2⟩ := hel i (by omega)
      obtain ⟨y, hy, hg⟩ := h.open_ h2 (fun x hx => hl x (by
        unfold DataW.weights
        simp only [hu]
        refine List.mem_cons_of_mem _ (List.mem_append_left _ (weightsAll_mem P e _ (D i) ?_ x hx))
        exact List.mem_map.2 ⟨i, List.mem_range.2 hi, rfl⟩))
      obtain ⟨hn, hcell⟩ := cells_at h1
      refine ⟨y, ⟨cs', by rw [hn, h.cells], hy, fun j u hj => ?_⟩, hg⟩
      have := hcell j u hj
      rw [add_add, h.cells] at this
      exact this
    obtain ⟨l, hll, hat⟩ := list_of len hget
    refine ⟨l, ⟨some a, m, by rw [hll], by omega, rfl, by rw [hll]; unfold maxLen at hm; omega, fun _ => ⟨a, rfl, fun j p hj => (hat j p hj).1⟩⟩, ?_, fun y hy => ?_⟩
    · rw [hll]
      exact Nat.le_trans (Nat.mul_le_mul_right _ (by omega)) hw
    · obtain ⟨i, hi, rfl⟩ := List.mem_iff_getElem.1 hy
      exact (hat i _ (List.getElem?_eq_getElem hi)).2
theorem weights_agg {H : Type} {P : Program} {t : TypeId} {fs : Array Field} (hu : P.underlying t = some (.struct fs)) (xs : List (DataW H)) : DataW.weights P t (.agg xs) = DataW.weightsEach P (fs.toList.map (·.type)) xs := by
  simp [DataW.weights, hu]
theorem light_of {H : Type} {P : Program} {ts : List TypeId} {ds : List (DataW H)} (h : (DataW.weightsEach P ts ds).all (· ≤ reachBytes) = true) {j : Nat} {t : TypeId} {d : DataW H} (ht : ts[j]? = some t) (hd : ds[j]? = some d) : Light P t d := fun x hx => by
  have := List.all_eq_true.1 h x (DataW.weights_mem_each ht hd x hx)
  simpa using this
theorem Opens.struct2 {P : Program} {α β : Type} {d0 : Kd α} {d1 : Kd β} {t : TypeId} {f0 f1 : Field} {G0 : α → Prop} {G1 : β → Prop} (h0 : Opens P d0 f0.type G0) (h1 : Opens P d1 f1.type G1) (hu : P.underlying t = some (.struct #[f0, f1]))
    (o0 : f0.offset = 0) (o1 : f1.offset = d0.sz) (hc : P.cellsOf t = d0.sz + d1.sz) : Opens P (Kd.pair d0 d1) t (fun x => G0 x.1 ∧ G1 x.2) := by
  refine ⟨hc, fun {H enc W fuel cs x} hx hl => ?_⟩
  obtain ⟨y0, y1, n, rfl, hn, e0, e1⟩ := trod_struct2 hu hx
  have hw : ∀ x, x ∈ DataW.weights P t (.agg [y0.1, y1.1]) → x ≤ reachBytes := hl
  rw [weights_agg hu] at hw
  obtain ⟨x0, k0, g0⟩ := h0.open_ e0 (fun x hx => hw x (DataW.weights_mem_each (j := 0) rfl rfl x hx))
  obtain ⟨x1, k1, g1⟩ := h1.open_ e1 (fun x hx => hw x (DataW.weights_mem_each (j := 1) rfl rfl x hx))
  refine ⟨(x0, x1), ⟨_, _, ?_, k0, k1⟩, g0, g1⟩
  rw [o0, o1, h0.cells, h1.cells, List.drop_zero]
  rw [hc] at hn
  have : (cs.drop d0.sz).take d1.sz = cs.drop d0.sz := List.take_of_length_le (by rw [List.length_drop]; omega)
  rw [this, List.take_append_drop]
theorem Opens.iso {P : Program} {α β : Type} {d : Kd α} {t : TypeId} {G : α → Prop} (h : Opens P d t G) (f : β → α) (g : α → β) (hfg : ∀ y, f (g y) = y) : Opens P (Kd.iso d f) t (fun x => G (f x)) := by
  refine ⟨h.cells, fun {H enc W fuel cs x} hx hl => ?_⟩
  obtain ⟨y, hk, hg⟩ := h.open_ hx hl
  exact ⟨g y, show d.K W (f (g y)) cs by rw [hfg]; exact hk, by rw [hfg]; exact hg⟩
end Go.Proofs.YtoanmbhenmlboaaDoorH
end
section
namespace Go.Proofs.YtoanmbhenmlboaaDoorH
open Go
variable {H : Type} {enc : TypeId × Value → H}
theorem returns_and_shaped {a : Assume} {C : Checked} {os : Os} {f : FuncId} {fn : Func} {s : ChangeSpec} {conds : List PathCond} {apart fresh handsOn again : Bool} {X : World → Array Value → Prop}
    (hX : ∀ (w w' : World) (args : Array Value), w.heap = w'.heap → X w args → X w' args)
    (own : ownKnob C.prog.godebug = none) (started : os.Started) (noInit : C.prog.inits.idxOf? f = none) (hfn : C.prog.funcs[f]? = some fn)
    (witness : ∃ (w : World) (tape : Tape) (i : Input), w.os = os ∧ (w.forCall tape i).Shaped C.prog ∧ i.vars = [] ∧ Input.okWide C.prog (w.forCall tape i) .any w.heap.size f i ∧
      ((s.pre enc C.prog fn conds apart (w.forCall tape i).memory i.args ∧ X (w.forCall tape i).memory i.args) ∧ sizedMet enc C.prog fn (OpenSpec.ofChange s) apart (w.forCall tape i).memory i.args) ∧ a.holds C.prog (lone (Frame.enter C.prog f i.args .normal) [] (w.forCall tape i)))
    (contract : ∀ (W : World) (base : Nat) (args : Array Value) (ds gs : List (DataW H)) (before : List MemPlace),
      (∀ (j : Nat) t v, fn.params[j]? = some t → args[j]? = some v → Value.okWide C.prog W .any base t v) →
      DataW.Whole enc C.prog fn.params.toList s.vars apart W args.toList ds gs before →
      conds.all (PathCond.test C.prog ⟨fn.params.toList, ds, s.plain.varTypes C.prog, gs⟩) = true →
      (DataW.weightsEach C.prog (fn.params.toList ++ s.plain.varTypes C.prog) (ds ++ gs)).all (· ≤ reachBytes) = true → X W args →
      W.ShapedOpen C.prog →
      a.holds C.prog (lone (Frame.enter C.prog f args .normal) [] W) →
      Calls C.prog f args W fun e W' => ∃ v, e = .returned v ∧ s.post enc C.prog fn apart fresh handsOn again W args v W') :
    ReturnsInHanded a C os f .any (fun w args => (s.pre enc C.prog fn conds apart w args ∧ X w args) ∧ sizedMet enc C.prog fn (OpenSpec.ofChange s) apart w args) (s.post enc C.prog fn apart fresh handsOn again) := by
  refine returnsInHanded_of_calls own started noInit witness ?_
  intro w tape i _ hsh _ hok hpre hholds
  obtain ⟨_, _, _, fn', hfn', _, _, _, _, hval⟩ := hok
  have e : fn' = fn := Option.some.inj (hfn'.symm.trans hfn)
  subst e
  obtain ⟨⟨⟨ds, gs, before, hw, hc⟩, hx⟩, hz⟩ := hpre
  have hw' := DataW.Whole.of_heap (w' := w.forCall tape i) (by rfl) hw
  refine (contract (w.forCall tape i) w.heap.size i.args ds gs before hval hw' hc (hz.weights hw) (hX _ _ _ (by rfl) hx) hsh hholds).mono fun e W' ⟨v, he, hp⟩ => ?_
  subst he
  exact ChangeSpec.post_blind hp
end Go.Proofs.YtoanmbhenmlboaaDoorH
end
