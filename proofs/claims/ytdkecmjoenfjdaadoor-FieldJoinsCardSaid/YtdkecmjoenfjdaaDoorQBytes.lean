import Derived.Test.YtdkecmjoenfjdaaDoorHGivenOctet
namespace Go.Proofs.YtdkecmjoenfjdaaDoorH
open Go.RowKit Go.Proofs.YtdkecmjoenfjdaaDoorW.PrintWords Go.Proofs.YtdkecmjoenfjdaaDoorW.PrintLast Go.Proofs.YtdkecmjoenfjdaaDoorW.PrintMore

/-! ### plain lemmas on texts -/
theorem wrap_up {i : Int} {n : Nat} (h0 : 0 ≤ i) (h : i < (n : Int)) (hn : n ≤ 140737488355328) : wrap64 (i + 1) = i + 1 := by
  unfold wrap64
  omega
theorem wrap_down {n : Nat} (h : 0 < n) (hn : n ≤ 140737488355328) : wrap64 ((n : Int) - 1) = (n : Int) - 1 := by
  unfold wrap64
  omega

theorem allB_iff (p : Int → Bool) (s : ByteArray) : allB p s = true ↔ ∀ k : Nat, k < s.size → p (bt s k) = true := by
  constructor
  · intro h k hk
    cases hp : p (bt s k) with
    | true => rfl
    | false => rw [allB_not p s k hk hp] at h; cases h
  · exact allB_of p s

theorem allB_congr {p q : Int → Bool} (h : ∀ c, 0 ≤ c → c ≤ 255 → p c = q c) (s : ByteArray) : allB p s = allB q s := by
  unfold allB
  have : ∀ l : List UInt8, (l.all fun c => p c.toNat) = (l.all fun c => q c.toNat) := by
    intro l
    induction l with
    | nil => rfl
    | cons a l ih => rw [List.all_cons, List.all_cons, ih, h _ (by omega) (by have := a.toNat_lt; omega)]
  exact this _

/-- All bytes from a place on. -/
def allFrom (p : Int → Bool) (s : ByteArray) (i : Nat) : Bool := (s.data.toList.drop i).all fun c => p c.toNat
theorem allFrom_zero (p : Int → Bool) (s : ByteArray) : allFrom p s 0 = allB p s := rfl
theorem allFrom_end (p : Int → Bool) (s : ByteArray) (i : Nat) (h : s.size ≤ i) : allFrom p s i = true := by
  unfold allFrom
  rw [List.drop_eq_nil_of_le (by rw [data_length]; exact h)]
  rfl
theorem allFrom_step (p : Int → Bool) (s : ByteArray) (i : Nat) (h : i < s.size) : allFrom p s i = (p (bt s i) && allFrom p s (i + 1)) := by
  unfold allFrom
  have h' : i < s.data.toList.length := by rw [data_length]; exact h
  rw [List.drop_eq_getElem_cons h', List.all_cons, bt_nat s i h, List.getD_eq_getElem?_getD, List.getElem?_eq_getElem h']
  rfl

theorem bytes_ext {a b : ByteArray} (h : a.data.toList = b.data.toList) : a = b := by
  cases a; cases b
  congr 1
  exact Array.toList_inj.1 h
theorem beq_toList (a b : ByteArray) : (a.toList == b.toList) = decide (a = b) := by
  rw [ByteArray.toList_eq, ByteArray.toList_eq, Bool.eq_iff_iff]
  simp only [beq_iff_eq, decide_eq_true_eq]
  exact ⟨bytes_ext, fun h => by rw [h]⟩
theorem eq_toList (a b : ByteArray) : (a.toList = b.toList) ↔ a = b := by
  rw [ByteArray.toList_eq, ByteArray.toList_eq]
  exact ⟨bytes_ext, fun h => by rw [h]⟩
theorem append_data (a b : ByteArray) : (a ++ b).data.toList = a.data.toList ++ b.data.toList := by
  rw [ByteArray.data_append, Array.toList_append]
theorem allB_append (p : Int → Bool) (a b : ByteArray) : allB p (a ++ b) = (allB p a && allB p b) := by
  unfold allB
  rw [append_data, List.all_append]
theorem size_eq_length (s : ByteArray) : s.size = s.data.toList.length := (data_length s).symm
theorem isEmpty_append (a b : ByteArray) : (a ++ b).data.toList.isEmpty = (a.data.toList.isEmpty && b.data.toList.isEmpty) := by
  rw [append_data]
  cases a.data.toList <;> rfl
theorem isEmpty_size (s : ByteArray) : s.data.toList.isEmpty = decide (s.size = 0) := by
  rw [size_eq_length]
  cases s.data.toList <;> simp

/-! ### trimming -/
def rtrim (p : UInt8 → Bool) (l : List UInt8) : List UInt8 := (l.reverse.dropWhile p).reverse
theorem rtrim_cons (p : UInt8 → Bool) (a : UInt8) (t : List UInt8) : rtrim p (a :: t) = if (rtrim p t).isEmpty then (if p a then [] else [a]) else a :: rtrim p t := by
  unfold rtrim
  rw [List.reverse_cons, List.dropWhile_append]
  by_cases h : (t.reverse.dropWhile p).isEmpty
  · rw [if_pos h]
    have h' : t.reverse.dropWhile p = [] := by simpa using h
    rw [h']
    cases hp : p a <;> simp [List.dropWhile, hp]
  · rw [if_neg h, if_neg (by simpa using h)]
    simp
theorem rtrim_left (p : UInt8 → Bool) (l : List UInt8) : (rtrim p l).dropWhile p = rtrim p (l.dropWhile p) := by
  induction l with
  | nil => rfl
  | cons a t ih =>
    rw [rtrim_cons]
    cases hp : p a with
    | true =>
      rw [List.dropWhile_cons_of_pos hp, ← ih]
      by_cases h : (rtrim p t).isEmpty
      · have h' : rtrim p t = [] := by simpa using h
        rw [if_pos h, if_pos rfl, h']
      · rw [if_neg h, List.dropWhile_cons_of_pos hp]
    | false =>
      rw [List.dropWhile_cons_of_neg (by simp [hp]), rtrim_cons, hp]
      by_cases h : (rtrim p t).isEmpty
      · rw [if_pos h]
        exact List.dropWhile_cons_of_neg (by simp [hp])
      · rw [if_neg h]
        exact List.dropWhile_cons_of_neg (by simp [hp])
def blankU (c : UInt8) : Bool := ([32, 9] : List UInt8).contains c
theorem blankU_int (c : UInt8) : blankI (c.toNat : Int) = blankU c := by
  have : ∀ n : Fin 256, blankI (n.val : Int) = blankU (UInt8.ofNat n.val) := by decide +kernel
  have h := this ⟨c.toNat, c.toNat_lt⟩
  simpa using h
theorem trimL_eq (l : List UInt8) : trimL l = (rtrim blankU l).dropWhile blankU := rfl
theorem trimL_eq' (l : List UInt8) : trimL l = rtrim blankU (l.dropWhile blankU) := by rw [trimL_eq, rtrim_left]

theorem rtrim_snoc (p : UInt8 → Bool) (l : List UInt8) (a : UInt8) : rtrim p (l ++ [a]) = if p a then rtrim p l else l ++ [a] := by
  unfold rtrim
  rw [List.reverse_append]
  cases hp : p a <;> simp [hp]
theorem rtrim_idem (p : UInt8 → Bool) (l : List UInt8) : rtrim p (rtrim p l) = rtrim p l := by
  unfold rtrim
  rw [List.reverse_reverse]
  have : ∀ l : List UInt8, (l.dropWhile p).dropWhile p = l.dropWhile p := by
    intro l
    induction l with
    | nil => rfl
    | cons a t ih =>
      cases hp : p a with
      | true => rw [List.dropWhile_cons_of_pos hp, ih]
      | false => rw [List.dropWhile_cons_of_neg (by simp [hp]), List.dropWhile_cons_of_neg (by simp [hp])]
  rw [this]
theorem dropWhile_idem (p : UInt8 → Bool) (l : List UInt8) : (l.dropWhile p).dropWhile p = l.dropWhile p := by
  induction l with
  | nil => rfl
  | cons a t ih =>
    cases hp : p a with
    | true => rw [List.dropWhile_cons_of_pos hp, ih]
    | false => rw [List.dropWhile_cons_of_neg (by simp [hp]), List.dropWhile_cons_of_neg (by simp [hp])]
theorem trimL_idem (l : List UInt8) : trimL (trimL l) = trimL l := by
  rw [trimL_eq (trimL l), trimL_eq' l, rtrim_idem, ← rtrim_left, dropWhile_idem]
theorem trimS_idem (s : ByteArray) : trimS (trimS s) = trimS s := by
  apply bytes_ext
  show trimL (trimS s).data.toList = (trimS s).data.toList
  exact trimL_idem _
theorem trimS_data (s : ByteArray) : (trimS s).data.toList = trimL s.data.toList := rfl
theorem dropWhile_all (p q : UInt8 → Bool) (l : List UInt8) (h : l.all q = true) : (l.dropWhile p).all q = true := by
  rw [List.all_eq_true] at h ⊢
  exact fun x hx => h x ((List.dropWhile_sublist p).mem hx)
theorem rtrim_sub (p : UInt8 → Bool) (l : List UInt8) : ∀ x ∈ rtrim p l, x ∈ l := by
  intro x hx
  unfold rtrim at hx
  have := (List.dropWhile_sublist p).mem (List.mem_reverse.1 hx)
  exact List.mem_reverse.1 this
theorem trimL_sub (l : List UInt8) : ∀ x ∈ trimL l, x ∈ l := by
  intro x hx
  rw [trimL_eq] at hx
  exact rtrim_sub _ _ x ((List.dropWhile_sublist _).mem hx)
theorem rtrim_length (p : UInt8 → Bool) (l : List UInt8) : (rtrim p l).length ≤ l.length := by
  unfold rtrim
  have := (List.dropWhile_sublist p (l := l.reverse)).length_le
  simpa using this
theorem trimL_length (l : List UInt8) : (trimL l).length ≤ l.length := by
  rw [trimL_eq]
  exact Nat.le_trans (List.dropWhile_sublist _).length_le (rtrim_length _ _)
theorem trimS_size (s : ByteArray) : (trimS s).size ≤ s.size := by
  rw [size_eq_length, size_eq_length, trimS_data]
  exact trimL_length _
theorem extract_list (s : ByteArray) (i j : Nat) : (s.extract i j).data.toList = (s.data.toList.drop i).take (j - i) := by
  rw [ByteArray.data_extract, Array.toList_extract, List.extract_eq_take_drop]
theorem extract_from (s : ByteArray) (i : Nat) : (s.extract i s.size).data.toList = s.data.toList.drop i := by
  rw [extract_list, List.take_of_length_le]
  rw [List.length_drop, data_length]
  exact Nat.le_refl _
theorem extract_to (s : ByteArray) (j : Nat) : (s.extract 0 j).data.toList = s.data.toList.take j := by
  rw [extract_list, List.drop_zero, Nat.sub_zero]
/-- A text is empty, or has a first byte. -/
theorem first_of (s : ByteArray) (h : 0 < s.size) : ∃ c t, s.data.toList = c :: t ∧ bt s 0 = (c.toNat : Int) := by
  have hb := bt_nat s 0 h
  cases hl : s.data.toList with
  | nil => rw [size_eq_length, hl] at h; simp at h
  | cons c t => exact ⟨c, t, rfl, by rw [hl] at hb; exact hb⟩
theorem last_of (s : ByteArray) (h : 0 < s.size) : ∃ t c, s.data.toList = t ++ [c] ∧ bt s ((s.size : Int) - 1) = (c.toNat : Int) := by
  have hne : s.data.toList ≠ [] := by intro e; rw [size_eq_length, e] at h; simp at h
  have hb := bt_nat s (s.size - 1) (by omega)
  refine ⟨s.data.toList.dropLast, s.data.toList.getLast hne, (List.dropLast_concat_getLast hne).symm, ?_⟩
  rw [show ((s.size : Int) - 1) = ((s.size - 1 : Nat) : Int) by omega, hb, List.getLast_eq_getElem, List.getD_eq_getElem?_getD, List.getElem?_eq_getElem (by rw [data_length]; omega)]
  simp only [Option.getD_some, data_length]
end Go.Proofs.YtdkecmjoenfjdaaDoorH
