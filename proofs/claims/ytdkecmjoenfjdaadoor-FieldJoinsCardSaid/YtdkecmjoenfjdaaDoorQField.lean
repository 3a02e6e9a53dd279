import Derived.Test.YtdkecmjoenfjdaaDoorQOctet
import Derived.Test.YtdkecmjoenfjdaaDoorPrx2
import Derived.Test.YtdkecmjoenfjdaaDoorPrx6
import Derived.Test.YtdkecmjoenfjdaaDoorPrx7
namespace Go.Proofs.YtdkecmjoenfjdaaDoorH
open Go.RowKit Go.Proofs.YtdkecmjoenfjdaaDoorW.PrintWords Go.Proofs.YtdkecmjoenfjdaaDoorW.PrintLast Go.Proofs.YtdkecmjoenfjdaaDoorW.PrintMore Go.Proofs.YtdkecmjoenfjdaaDoor.Pr

/-! ### where a text's first colon is -/
def colon (s : ByteArray) : Nat := s.data.toList.findIdx (· == 58)
theorem indexByte_findIdx : ∀ (l : List UInt8) (c : UInt8), Lib.indexByte l c = if l.findIdx (· == c) < l.length then ((l.findIdx (· == c) : Nat) : Int) else -1
  | [], c => rfl
  | b :: l, c => by
    unfold Lib.indexByte
    rw [List.findIdx_cons, indexByte_findIdx l c]
    cases h : b == c with
    | true => simp
    | false =>
      simp only [cond_false, List.length_cons]
      by_cases h2 : l.findIdx (· == c) < l.length
      · have e1 : (((List.findIdx (· == c) l : Nat) : Int) == -1) = false := by rw [beq_eq_false_iff_ne]; omega
        have e2 : List.findIdx (· == c) l + 1 < l.length + 1 := by omega
        simp only [if_pos h2, if_pos e2, e1, Bool.false_eq_true, if_false]
        omega
      · have e2 : ¬ List.findIdx (· == c) l + 1 < l.length + 1 := by omega
        simp only [if_neg h2, if_neg e2]
        rfl
theorem colon_le (s : ByteArray) : colon s ≤ s.size := by
  rw [size_eq_length]
  exact List.findIdx_le_length
theorem colon_not (s : ByteArray) (i : Nat) (h : i < colon s) : bt s (i : Int) ≠ 58 := by
  have hs := colon_le s
  have hi : i < s.data.toList.length := by rw [← size_eq_length]; omega
  rw [bt_nat s i (by omega), List.getD_eq_getElem?_getD, List.getElem?_eq_getElem hi, Option.getD_some]
  have := List.not_of_lt_findIdx (p := (· == 58)) (xs := s.data.toList) h
  intro hc
  apply absurd this
  have h2 : s.data.toList[i].toNat = 58 := by omega
  have h3 : s.data.toList[i] = 58 := UInt8.toNat_inj.1 h2
  simp [h3]
theorem colon_at (s : ByteArray) (h : colon s < s.size) : bt s (colon s : Int) = 58 := by
  have hi : colon s < s.data.toList.length := by rw [← size_eq_length]; exact h
  rw [bt_nat s _ h, List.getD_eq_getElem?_getD, List.getElem?_eq_getElem hi]
  have := List.findIdx_getElem (p := (· == 58)) (xs := s.data.toList) (w := hi)
  have h3 : s.data.toList[colon s] = 58 := beq_iff_eq.1 this
  show ((s.data.toList[colon s].toNat : Nat) : Int) = 58
  rw [h3]
  rfl
theorem cut_colon (s : ByteArray) : Lib.cut s.data.toList (⟨#[58]⟩ : ByteArray).data.toList =
    if colon s < s.size then (s.data.toList.take (colon s), s.data.toList.drop (colon s + 1), true) else (s.data.toList, [], false) := by
  have e : Lib.index s.data.toList (⟨#[58]⟩ : ByteArray).data.toList = if colon s < s.size then ((colon s : Nat) : Int) else -1 := by
    rw [size_eq_length]
    exact (Lib.index_one _ _).trans (indexByte_findIdx _ _)
  unfold Lib.cut
  rw [e]
  by_cases h : colon s < s.size
  · rw [if_pos h, if_pos h, if_pos (by omega)]
    rfl
  · rw [if_neg h, if_neg h, if_neg (by omega)]

/-! ### what a line is -/
def nameOf (s : ByteArray) : ByteArray := s.extract 0 (colon s)
def restOf (s : ByteArray) : ByteArray := s.extract (colon s + 1) s.size
def lineB (s : ByteArray) : Bool := decide (colon s < s.size) && (tokB (nameOf s) && allB textI (restOf s))
def parseF (s : ByteArray) : ByteArray := if lineB s then nameOf s else ⟨#[]⟩
def parseV (s : ByteArray) : ByteArray := if lineB s then trimS (restOf s) else ⟨#[]⟩
theorem nameOf_size (s : ByteArray) : (nameOf s).size ≤ s.size := by
  rw [size_eq_length, size_eq_length, nameOf, extract_to, List.length_take]
  omega
theorem restOf_size (s : ByteArray) : (restOf s).size ≤ s.size := by
  rw [size_eq_length, size_eq_length, restOf, extract_from, List.length_drop]
  omega

theorem all_dropWhile {p q : UInt8 → Bool} (hpq : ∀ x, p x = true → q x = true) : ∀ l : List UInt8, (l.dropWhile p).all q = l.all q
  | [] => rfl
  | a :: l => by
    cases h : p a with
    | true => rw [List.dropWhile_cons_of_pos h, all_dropWhile hpq l, List.all_cons, hpq a h, Bool.true_and]
    | false => rw [List.dropWhile_cons_of_neg (by simp [h])]
theorem all_rtrim {p q : UInt8 → Bool} (hpq : ∀ x, p x = true → q x = true) (l : List UInt8) : (rtrim p l).all q = l.all q := by
  unfold rtrim
  rw [List.all_reverse, all_dropWhile hpq, List.all_reverse]
theorem text_trim (s : ByteArray) : allB textI (trimS s) = allB textI s := by
  have h : ∀ x : UInt8, blankU x = true → textI (x.toNat : Int) = true := fun x hx => by
    unfold textI
    rw [blankU_int, hx, Bool.true_or]
  unfold allB
  rw [trimS_data, trimL_eq, all_dropWhile h, all_rtrim h]

def valueB (s : ByteArray) : Bool := allB textI s && decide (trimS s = s)
def rightB (a b : ByteArray) : Bool := tokB a && valueB b
theorem value_trim (s : ByteArray) : valueB (trimS s) = allB textI s := by
  unfold valueB
  rw [text_trim, trimS_idem]
  simp

theorem octet_Value_eq (a : ByteArray) (hs : a.size ≤ 140737488355328) : octet_Value.f a = some (valueB a) := by
  unfold octet_Value.f octet_Text.f octet_Trim.f
  simp only [if_pos hs, Option.bind_some]
  unfold valueB
  cases allB textI a with
  | false => rfl
  | true => rw [if_pos rfl, beq_toList, Bool.true_and]
theorem field_Right_eq (a b : ByteArray) (ha : a.size ≤ 140737488355328) (hb : b.size ≤ 140737488355328) : field_Right.f a b = some (rightB a b) := by
  unfold field_Right.f octet_Token.f
  rw [if_pos ha, Option.bind_some, octet_Value_eq b hb, Option.bind_some]
  unfold rightB
  cases tokB a with
  | false => rfl
  | true => rw [if_pos rfl, Bool.true_and]
theorem field_Parse_eq (s : ByteArray) (hs : s.size < 4294967281) : field_Parse.f s = some (parseF s, parseV s, if lineB s then 0 else 2) := by
  unfold field_Parse.f strings_Cut.f octet_Trim.f
  rw [if_pos hs, Option.bind_some, cut_colon]
  by_cases hc : colon s < s.size
  · rw [if_pos hc]
    have e1 : (⟨(s.data.toList.take (colon s)).toArray⟩ : ByteArray) = nameOf s := bytes_ext (by rw [nameOf, extract_to])
    have e2 : (⟨(s.data.toList.drop (colon s + 1)).toArray⟩ : ByteArray) = restOf s := bytes_ext (by rw [restOf, extract_from])
    have h1 := nameOf_size s
    have h2 := restOf_size s
    have h3 := trimS_size (restOf s)
    simp only [e1, e2]
    rw [if_pos (by omega), Option.bind_some, if_pos trivial, field_Right_eq _ _ (by omega) (by omega), Option.bind_some]
    have hl : lineB s = rightB (nameOf s) (trimS (restOf s)) := by
      unfold lineB rightB
      rw [value_trim, decide_eq_true hc, Bool.true_and]
    unfold parseF parseV
    rw [hl]
    cases rightB (nameOf s) (trimS (restOf s)) <;> rfl
  · rw [if_neg hc]
    have hl : lineB s = false := by
      unfold lineB
      rw [decide_eq_false hc, Bool.false_and]
    have h0 : (⟨#[]⟩ : ByteArray).size ≤ 140737488355328 := by decide
    unfold parseF parseV
    rw [hl]
    simp only [if_pos h0, Option.bind_some, Bool.false_eq_true, if_false]
theorem ref05_Right (a b : ByteArray) (ha : a.size ≤ 140737488355328) (hb : b.size ≤ 140737488355328) : Ev (fun k => catchpitref05_Right.f k a b) (rightB a b) := by
  obtain ⟨K1, h1⟩ := ref02_Token a ha
  obtain ⟨K2, h2⟩ := ref02_Value b hb
  refine ⟨K1 + K2, fun k hk => ?_⟩
  have h1 := h1 k (by omega)
  have h2 := h2 k (by omega)
  simp only at h1 h2
  show catchpitref05_Right.f k a b = _
  rw [catchpitref05_Right.f, h1, Option.bind_some, h2]
  unfold rightB valueB
  cases tokB a <;> rfl
theorem ref05_Parse_l0 (s : ByteArray) (hs : s.size ≤ 140737488355328) (k : Nat) (d : Nat) : ∀ i : Nat, i ≤ colon s → colon s - i = d →
    catchpitref05_Parse.l0 (k + d + 1) s (i : Int) = catchpitref05_Parse.j1 k s (colon s : Int) := by
  have hc := colon_le s
  induction d with
  | zero =>
    intro i h1 h2
    obtain rfl : i = colon s := by omega
    rw [Nat.add_zero, catchpitref05_Parse.l0]
    by_cases h : colon s < s.size
    · rw [if_pos (by omega), if_pos (by omega), if_pos (colon_at s h)]
    · rw [if_neg (by omega)]
  | succ d ih =>
    intro i h1 h2
    rw [catchpitref05_Parse.l0, if_pos (by omega), if_pos (by omega), if_neg (colon_not s i (by omega)), wrap_up (by omega) (show (i : Int) < (s.size : Int) by omega) hs]
    exact ih (i + 1) (by omega) (by omega)
theorem ref05_Parse (s : ByteArray) (hs : s.size ≤ 140737488355328) : Ev (fun k => catchpitref05_Parse.f k s) (parseF s, parseV s, lineB s) := by
  have h1 := nameOf_size s
  have h2 := restOf_size s
  have hc := colon_le s
  obtain ⟨K1, e1⟩ := ref02_Token (nameOf s) (by omega)
  obtain ⟨K2, e2⟩ := ref02_Text (restOf s) (by omega)
  obtain ⟨K3, e3⟩ := ref02_Trim (restOf s) (by omega)
  refine ⟨K1 + K2 + K3 + colon s + 2, fun k hk => ?_⟩
  obtain ⟨m, rfl⟩ : ∃ m, k = (m + 1) + colon s + 1 := ⟨k - colon s - 2, by omega⟩
  have e1 := e1 m (by omega)
  have e2 := e2 m (by omega)
  have e3 := e3 m (by omega)
  simp only at e1 e2 e3
  show catchpitref05_Parse.l0 _ s 0 = _
  have hl := ref05_Parse_l0 s hs (m + 1) (colon s) 0 (by omega) (by omega)
  rw [show ((0 : Nat) : Int) = 0 from rfl] at hl
  rw [hl, catchpitref05_Parse.j1]
  by_cases h : colon s < s.size
  · rw [if_neg (by omega), if_pos (by omega), if_pos (by omega), Int.toNat_natCast, show s.extract 0 (colon s) = nameOf s from rfl, e1, Option.bind_some]
    unfold parseF parseV lineB
    rw [decide_eq_true h, Bool.true_and]
    cases tokB (nameOf s) with
    | false => rfl
    | true =>
      rw [if_pos rfl, wrap_up (by omega) (show (colon s : Int) < (s.size : Int) by omega) hs, if_pos (by omega), if_pos (by omega), show ((colon s : Int) + 1).toNat = colon s + 1 by omega, show s.extract (colon s + 1) s.size = restOf s from rfl, e2, Option.bind_some]
      cases allB textI (restOf s) with
      | false => rfl
      | true =>
        rw [if_pos rfl, e3]
        rfl
  · rw [if_pos (by omega)]
    unfold parseF parseV lineB
    rw [decide_eq_false h, Bool.false_and]
    rfl
end Go.Proofs.YtdkecmjoenfjdaaDoorH
