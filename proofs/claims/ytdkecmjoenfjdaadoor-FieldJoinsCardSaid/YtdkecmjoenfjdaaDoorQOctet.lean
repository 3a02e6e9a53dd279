import Derived.Test.YtdkecmjoenfjdaaDoorQBytes
import Derived.Test.YtdkecmjoenfjdaaDoorPrx3
import Derived.Test.YtdkecmjoenfjdaaDoorPrx4
import Derived.Test.YtdkecmjoenfjdaaDoorPrx5
import Derived.Test.YtdkecmjoenfjdaaDoorPrx11
import Derived.Test.YtdkecmjoenfjdaaDoorPrx7
namespace Go.Proofs.YtdkecmjoenfjdaaDoorH
open Go.RowKit Go.Proofs.YtdkecmjoenfjdaaDoorW.PrintWords Go.Proofs.YtdkecmjoenfjdaaDoorW.PrintLast Go.Proofs.YtdkecmjoenfjdaaDoorW.PrintMore Go.Proofs.YtdkecmjoenfjdaaDoor.Pr

/-! ### the references of layer 2 -/
theorem ref02_token (k : Nat) (c : Int) (h0 : 0 ≤ c) (h1 : c ≤ 255) : catchpitref02_token.f (k + 1) c = some (tokI c) := by
  have e : catchpitref02_token.f (k + 1) c = catchpitref02_token.f 1 c := by
    unfold catchpitref02_token.f
    simp only [catchpitref02_token.j0]
  rw [e]
  obtain ⟨n, rfl⟩ := Int.eq_ofNat_of_zero_le h0
  have : ∀ n : Fin 256, catchpitref02_token.f 1 (n.val : Int) = some (tokI (n.val : Int)) := by decide +kernel
  exact this ⟨n, by omega⟩

theorem ref02_byte (c : Int) (h0 : 0 ≤ c) (h1 : c ≤ 255) : catchpitref02_Byte.f c = some (textI c) := by
  obtain ⟨n, rfl⟩ := Int.eq_ofNat_of_zero_le h0
  have : ∀ n : Fin 256, catchpitref02_Byte.f (n.val : Int) = some (textI (n.val : Int)) := by decide +kernel
  exact this ⟨n, by omega⟩

theorem ref02_blank (c : Int) : catchpitref02_blank.f c = some (blankI c) := by
  unfold catchpitref02_blank.f blankI
  by_cases h : c = 32
  · rw [if_pos h]; subst h; rfl
  · rw [if_neg h, beq_eq_false_iff_ne.2 h, Bool.false_or]

theorem ref02_Token_l0 (s : ByteArray) (hs : s.size ≤ 140737488355328) (d : Nat) : ∀ (k i : Nat), i ≤ s.size → s.size - i = d → d + 1 < k →
    catchpitref02_Token.l0 k s (i : Int) = some (allFrom tokI s i && decide (0 < s.size)) := by
  induction d with
  | zero =>
    intro k i h1 hd hk
    obtain ⟨k, rfl⟩ : ∃ m, k = m + 1 := ⟨k - 1, by omega⟩
    simp only [catchpitref02_Token.l0]
    rw [if_neg (by omega), allFrom_end _ _ _ (by omega), Bool.true_and]
    congr 1
    rw [decide_eq_decide]
    omega
  | succ d ih =>
    intro k i h1 hd hk
    obtain ⟨k, rfl⟩ : ∃ m, k = m + 2 := ⟨k - 2, by omega⟩
    have hb := bt_range s i
    rw [catchpitref02_Token.l0, if_pos (by omega), if_pos (by omega), ref02_token k _ hb.1 hb.2, Option.bind_some, allFrom_step tokI s i (by omega)]
    cases hp : tokI (bt s i) with
    | true =>
      rw [if_pos rfl, wrap_up (by omega) (show (i : Int) < (s.size : Int) by omega) hs, Bool.true_and]
      exact ih (k + 1) (i + 1) (by omega) (by omega) (by omega)
    | false => rfl

theorem ref02_Token (s : ByteArray) (hs : s.size ≤ 140737488355328) : Ev (fun k => catchpitref02_Token.f k s) (tokB s) := by
  refine ⟨s.size + 2, fun k hk => ?_⟩
  show catchpitref02_Token.l0 k s 0 = _
  have := ref02_Token_l0 s hs s.size k 0 (by omega) (by omega) (by omega)
  rw [show ((0 : Nat) : Int) = 0 from rfl] at this
  rw [this, allFrom_zero]
  unfold tokB
  rw [isEmpty_size, Bool.and_comm]
  congr 2
  rw [← decide_not, decide_eq_decide]
  omega

theorem ref02_Text_l0 (s : ByteArray) (hs : s.size ≤ 140737488355328) (d : Nat) : ∀ (k i : Nat), i ≤ s.size → s.size - i = d → d < k →
    catchpitref02_Text.l0 k s (i : Int) = some (allFrom textI s i) := by
  induction d with
  | zero =>
    intro k i h1 hd hk
    obtain ⟨k, rfl⟩ : ∃ m, k = m + 1 := ⟨k - 1, by omega⟩
    simp only [catchpitref02_Text.l0]
    rw [if_neg (by omega), allFrom_end _ _ _ (by omega)]
  | succ d ih =>
    intro k i h1 hd hk
    obtain ⟨k, rfl⟩ : ∃ m, k = m + 1 := ⟨k - 1, by omega⟩
    have hb := bt_range s i
    rw [catchpitref02_Text.l0, if_pos (by omega), if_pos (by omega), ref02_byte _ hb.1 hb.2, Option.bind_some, allFrom_step textI s i (by omega)]
    cases hp : textI (bt s i) with
    | true =>
      rw [if_pos rfl, wrap_up (by omega) (show (i : Int) < (s.size : Int) by omega) hs, Bool.true_and]
      exact ih k (i + 1) (by omega) (by omega) (by omega)
    | false => rfl

theorem ref02_Text (s : ByteArray) (hs : s.size ≤ 140737488355328) : Ev (fun k => catchpitref02_Text.f k s) (allB textI s) := by
  refine ⟨s.size + 1, fun k hk => ?_⟩
  show catchpitref02_Text.l0 k s 0 = _
  have := ref02_Text_l0 s hs s.size k 0 (by omega) (by omega) (by omega)
  rw [show ((0 : Nat) : Int) = 0 from rfl] at this
  rw [this, allFrom_zero]


theorem mk_data (s : ByteArray) : (⟨s.data.toList.toArray⟩ : ByteArray) = s := bytes_ext (by simp)
theorem ref02_Trim_l1 (n : Nat) : ∀ (s : ByteArray) (k : Nat), s.size = n → n ≤ 140737488355328 → n < k →
    catchpitref02_Trim.l1 k s = some ⟨(rtrim blankU s.data.toList).toArray⟩ := by
  induction n with
  | zero =>
    intro s k hs hn hk
    obtain ⟨k, rfl⟩ : ∃ m, k = m + 1 := ⟨k - 1, by omega⟩
    rw [catchpitref02_Trim.l1, if_neg (by omega)]
    have hl : s.data.toList = [] := by rw [size_eq_length] at hs; exact List.length_eq_zero_iff.1 hs
    congr 1
    apply bytes_ext
    rw [hl]; rfl
  | succ n ih =>
    intro s k hs hn hk
    obtain ⟨k, rfl⟩ : ∃ m, k = m + 1 := ⟨k - 1, by omega⟩
    obtain ⟨t, c, hl, hb⟩ := last_of s (by omega)
    rw [catchpitref02_Trim.l1, if_pos (by omega), wrap_down (by omega) (by omega), if_pos (by omega), if_pos (by omega), ref02_blank, Option.bind_some, hb, blankU_int]
    rw [hl, rtrim_snoc]
    cases hp : blankU c with
    | true =>
      rw [if_pos rfl, if_pos (by omega), if_pos rfl, show ((s.size : Int) - 1).toNat = s.size - 1 by omega]
      have he : (s.extract 0 (s.size - 1)).data.toList = t := by
        rw [extract_to, hl, size_eq_length, hl]
        simp
      rw [ih _ k (by rw [size_eq_length, he]; have := size_eq_length s; rw [hl] at this; simp at this; omega) (by omega) (by omega), he]
    | false =>
      rw [if_neg (by simp), if_neg (by simp), ← hl, mk_data]

theorem ref02_Trim_l0 (n : Nat) : ∀ (s : ByteArray) (k : Nat), s.size = n → n ≤ 140737488355328 → n + n + 2 < k →
    catchpitref02_Trim.l0 k s = some ⟨(rtrim blankU (s.data.toList.dropWhile blankU)).toArray⟩ := by
  induction n with
  | zero =>
    intro s k hs hn hk
    obtain ⟨k, rfl⟩ : ∃ m, k = m + 2 := ⟨k - 2, by omega⟩
    rw [catchpitref02_Trim.l0, if_neg (by omega), catchpitref02_Trim.j1, ref02_Trim_l1 0 s k hs (by omega) (by omega)]
    have hl : s.data.toList = [] := by rw [size_eq_length] at hs; exact List.length_eq_zero_iff.1 hs
    rw [hl]; rfl
  | succ n ih =>
    intro s k hs hn hk
    obtain ⟨k, rfl⟩ : ∃ m, k = m + 2 := ⟨k - 2, by omega⟩
    obtain ⟨c, t, hl, hb⟩ := first_of s (by omega)
    rw [catchpitref02_Trim.l0, if_pos (by omega), if_pos (by omega), ref02_blank, Option.bind_some, hb, blankU_int, hl]
    cases hp : blankU c with
    | true =>
      rw [if_pos rfl, if_pos (by omega), List.dropWhile_cons_of_pos hp]
      have he : (s.extract 1 s.size).data.toList = t := by rw [extract_from, hl]; rfl
      rw [ih _ (k + 1) (by rw [size_eq_length, he]; have := size_eq_length s; rw [hl] at this; simp at this; omega) (by omega) (by omega), he]
    | false =>
      rw [if_neg (by simp), catchpitref02_Trim.j1, ref02_Trim_l1 (n + 1) s k hs (by omega) (by omega), List.dropWhile_cons_of_neg (by simp [hp]), hl]

theorem ref02_Trim (s : ByteArray) (hs : s.size ≤ 140737488355328) : Ev (fun k => catchpitref02_Trim.f k s) (trimS s) := by
  refine ⟨s.size + s.size + 3, fun k hk => ?_⟩
  show catchpitref02_Trim.l0 k s = _
  rw [ref02_Trim_l0 s.size s k rfl hs (by omega)]
  unfold trimS
  rw [trimL_eq']

theorem ref02_Small_l0 (s : ByteArray) (hs : s.size ≤ 140737488355327) (d : Nat) : ∀ (k i : Nat), i ≤ s.size → s.size - i = d → d < k →
    catchpitref02_Small.l0 k s ((smallL s).take i) (i : Int) = some (smallS s) := by
  induction d with
  | zero =>
    intro k i h1 hd hk
    obtain ⟨k, rfl⟩ : ∃ m, k = m + 1 := ⟨k - 1, by omega⟩
    rw [catchpitref02_Small.l0, if_neg (by omega), List.take_of_length_le (by rw [smallL_length]; omega)]
    rfl
  | succ d ih =>
    intro k i h1 hd hk
    obtain ⟨k, rfl⟩ : ∃ m, k = m + 1 := ⟨k - 1, by omega⟩
    have hb := bt_range s i
    have hlen : ((smallL s).take i).length < 140737488355328 := by rw [List.length_take, smallL_length]; omega
    have hi : i < (smallL s).length := by rw [smallL_length]; omega
    have hst : (smallL s).take (i + 1) = (smallL s).take i ++ [smallI (bt s i)] := by
      rw [List.take_succ_eq_append_getElem hi, ← smallL_at s i (by omega), List.getD_eq_getElem?_getD, List.getElem?_eq_getElem hi]
      rfl
    have hih := ih k (i + 1) (by omega) (by omega) (by omega)
    rw [hst] at hih
    rw [catchpitref02_Small.l0, if_pos (by omega), if_pos (by omega), wrap_up (by omega) (show (i : Int) < (s.size : Int) by omega) (by omega)]
    by_cases h65 : bt s i ≥ 65
    · rw [if_pos h65]
      by_cases h90 : bt s i ≤ 90
      · rw [if_pos h90, if_pos hlen, show (bt s i + 32) % 256 = smallI (bt s i) by unfold smallI; rw [if_pos ⟨h65, h90⟩]; omega]
        exact hih
      · rw [if_neg h90, if_pos hlen, show bt s i = smallI (bt s i) by unfold smallI; rw [if_neg (by omega)]] 
        exact hih
    · rw [if_neg h65, if_pos hlen, show bt s i = smallI (bt s i) by unfold smallI; rw [if_neg (by omega)]]
      exact hih

theorem ref02_Small (s : ByteArray) (hs : s.size ≤ 140737488355327) : Ev (fun k => catchpitref02_Small.f k s) (smallS s) := by
  refine ⟨s.size + 1, fun k hk => ?_⟩
  have := ref02_Small_l0 s hs s.size k 0 (by omega) (by omega) (by omega)
  exact this

theorem ref02_Value (s : ByteArray) (hs : s.size ≤ 140737488355328) : Ev (fun k => catchpitref02_Value.f k s) (allB textI s && (decide (trimS s = s))) := by
  obtain ⟨K, hK⟩ := ref02_Text s hs
  refine ⟨K, fun k hk => ?_⟩
  show catchpitref02_Value.f k s = _
  have hk' := hK k hk
  simp only at hk'
  rw [catchpitref02_Value.f, hk', Option.bind_some]
  cases ht : allB textI s with
  | false => rfl
  | true =>
    rw [if_pos rfl, Bool.true_and]
    by_cases h0 : s.size = 0
    · rw [if_pos (by omega)]
      have hl : s.data.toList = [] := by rw [size_eq_length] at h0; exact List.length_eq_zero_iff.1 h0
      congr 1
      symm
      rw [decide_eq_true_eq]
      apply bytes_ext
      rw [trimS_data, hl]; rfl
    · rw [if_neg (by omega), if_pos (by omega), ref02_blank, Option.bind_some]
      obtain ⟨c, t, hl, hb⟩ := first_of s (by omega)
      obtain ⟨t2, c2, hl2, hb2⟩ := last_of s (by omega)
      have hE : (trimS s = s) ↔ trimL s.data.toList = s.data.toList := ⟨fun h => by rw [← trimS_data, h], fun h => bytes_ext (by rw [trimS_data, h])⟩
      rw [hb, blankU_int]
      cases hp : blankU c with
      | true =>
        rw [if_pos rfl]
        congr 1
        symm
        rw [decide_eq_false_iff_not, hE]
        intro h
        rw [trimL_eq', hl, List.dropWhile_cons_of_pos hp] at h
        have h1 := rtrim_length blankU (t.dropWhile blankU)
        have h2 := (List.dropWhile_sublist blankU (l := t)).length_le
        have h3 := congrArg List.length h
        simp at h3
        omega
      | false =>
        rw [if_neg (by simp), wrap_down (by omega) (by omega), if_pos (by omega), if_pos (by omega), ref02_blank, Option.bind_some, hb2, blankU_int]
        congr 1
        rw [Bool.eq_iff_iff, decide_eq_true_eq, hE]
        have hdw : s.data.toList.dropWhile blankU = s.data.toList := by rw [hl]; exact List.dropWhile_cons_of_neg (by simp [hp])
        rw [trimL_eq', hdw]
        constructor
        · intro h
          rw [hl2, rtrim_snoc, if_neg (by simpa using h)]
        · intro h
          cases hp2 : blankU c2 with
          | false => rfl
          | true =>
            rw [hl2, rtrim_snoc, if_pos hp2] at h
            have h1 := rtrim_length blankU t2
            have h3 := congrArg List.length h
            simp at h3
            omega

end Go.Proofs.YtdkecmjoenfjdaaDoorH
