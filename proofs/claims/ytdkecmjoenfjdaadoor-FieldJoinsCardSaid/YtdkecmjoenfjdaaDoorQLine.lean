import Derived.Test.YtdkecmjoenfjdaaDoorQField
import Derived.Test.YtdkecmjoenfjdaaDoorPrx2
import Derived.Test.YtdkecmjoenfjdaaDoorPrx8
import Derived.Test.YtdkecmjoenfjdaaDoorPrx9
namespace Go.Proofs.YtdkecmjoenfjdaaDoorH
open Go.RowKit Go.Proofs.YtdkecmjoenfjdaaDoorW.PrintWords Go.Proofs.YtdkecmjoenfjdaaDoorW.PrintLast Go.Proofs.YtdkecmjoenfjdaaDoorW.PrintMore Go.Proofs.YtdkecmjoenfjdaaDoor.Pr

theorem wakes05 : catchpitlaw05_wakes.f = some true := by
  unfold catchpitlaw05_wakes.f
  rw [field_Parse_eq _ (by decide), Option.bind_some]
  decide +kernel

/-! ### a line that was put together is parsed as it was -/
theorem findIdx_at {α : Type} (p : α → Bool) (x : α) (l2 : List α) (hx : p x = true) : ∀ l1 : List α, (∀ c ∈ l1, p c = false) → (l1 ++ x :: l2).findIdx p = l1.length
  | [], _ => by rw [List.nil_append, List.findIdx_cons, hx]; rfl
  | c :: l1, h => by
    rw [List.cons_append, List.findIdx_cons, h c (List.mem_cons_self ..), findIdx_at p x l2 hx l1 (fun c hc => h c (List.mem_cons_of_mem _ hc))]
    rfl
theorem dropWhile_blank (p : UInt8 → Bool) (X : List UInt8) : ∀ bl : List UInt8, bl.all p = true → (bl ++ X).dropWhile p = X.dropWhile p
  | [], _ => rfl
  | c :: bl, h => by
    rw [List.all_cons, Bool.and_eq_true] at h
    rw [List.cons_append, List.dropWhile_cons_of_pos h.1, dropWhile_blank p X bl h.2]
theorem rtrim_blank (p : UInt8 → Bool) (X br : List UInt8) (h : br.all p = true) : rtrim p (X ++ br) = rtrim p X := by
  unfold rtrim
  rw [List.reverse_append, dropWhile_blank p _ _ (by rw [List.all_reverse]; exact h)]
theorem trimL_mid (bl X br : List UInt8) (h1 : bl.all blankU = true) (h2 : br.all blankU = true) : trimL (bl ++ (X ++ br)) = trimL X := by
  rw [trimL_eq', dropWhile_blank _ _ _ h1, ← trimL_eq', trimL_eq, rtrim_blank _ _ _ h2, ← trimL_eq]
theorem text_of_blank (l : List UInt8) (h : l.all blankU = true) : (l.all fun c => textI c.toNat) = true := by
  rw [List.all_eq_true] at h ⊢
  intro x hx
  unfold textI
  rw [blankU_int, h x hx, Bool.true_or]
theorem parse_line (s a b : ByteArray) (bl br : List UInt8) (hs : s.data.toList = a.data.toList ++ 58 :: (bl ++ (b.data.toList ++ br))) (hbl : bl.all blankU = true) (hbr : br.all blankU = true) (hr : rightB a b = true) :
    lineB s = true ∧ parseF s = a ∧ parseV s = b := by
  unfold rightB valueB at hr
  rw [Bool.and_eq_true, Bool.and_eq_true, decide_eq_true_eq] at hr
  obtain ⟨ha, hb, ht⟩ := hr
  have hna : ∀ c ∈ a.data.toList, (c == 58) = false := by
    unfold tokB allB at ha
    rw [Bool.and_eq_true, List.all_eq_true] at ha
    intro c hc
    have h := ha.2 c hc
    cases h58 : c == 58 with
    | false => rfl
    | true =>
      rw [beq_iff_eq.1 h58] at h
      exact absurd h (by decide)
  have hcol : colon s = a.data.toList.length := by
    unfold colon
    rw [hs]
    exact findIdx_at (· == 58) 58 _ rfl _ hna
  have hsz : s.size = a.data.toList.length + (1 + (bl.length + (b.data.toList.length + br.length))) := by
    rw [size_eq_length, hs]
    simp
    omega
  have hn : nameOf s = a := bytes_ext (by rw [nameOf, extract_to, hcol, hs, List.take_left])
  have hrest : (restOf s).data.toList = bl ++ (b.data.toList ++ br) := by
    rw [restOf, extract_from, hcol, hs, ← List.drop_drop, List.drop_left]
    rfl
  have htr : trimS (restOf s) = b := bytes_ext (by rw [trimS_data, hrest, trimL_mid _ _ _ hbl hbr, ← trimS_data, ht])
  have hl : lineB s = true := by
    unfold lineB
    rw [Bool.and_eq_true, Bool.and_eq_true, decide_eq_true_eq]
    refine ⟨by omega, by rw [hn]; exact ha, ?_⟩
    unfold allB at hb ⊢
    rw [hrest, List.all_append, List.all_append, text_of_blank bl hbl, hb, text_of_blank br hbr]
    rfl
  refine ⟨hl, ?_, ?_⟩
  · unfold parseF
    rw [if_pos hl, hn]
  · unfold parseV
    rw [if_pos hl, htr]

def putS (a b : ByteArray) : ByteArray := if b.size = 0 then a ++ (⟨#[58]⟩ : ByteArray) else (a ++ (⟨#[58, 32]⟩ : ByteArray)) ++ b
theorem data_append (a b : ByteArray) : (a ++ b).data.toList = a.data.toList ++ b.data.toList := append_data a b
theorem putS_parse (a b : ByteArray) (hr : rightB a b = true) : lineB (putS a b) = true ∧ parseF (putS a b) = a ∧ parseV (putS a b) = b := by
  unfold putS
  by_cases h : b.size = 0
  · rw [if_pos h]
    have hb : b.data.toList = [] := by rw [size_eq_length] at h; exact List.length_eq_zero_iff.1 h
    exact parse_line _ a b [] [] (by rw [data_append, hb]; rfl) rfl rfl hr
  · rw [if_neg h]
    exact parse_line _ a b [32] [] (by rw [data_append, data_append, List.append_nil, List.append_assoc]; rfl) rfl rfl hr
theorem putS_size (a b : ByteArray) : (putS a b).size ≤ a.size + 2 + b.size := by
  unfold putS
  by_cases h : b.size = 0
  · rw [if_pos h, ByteArray.size_append, show (⟨#[58]⟩ : ByteArray).size = 1 from rfl]
    omega
  · rw [if_neg h, ByteArray.size_append, ByteArray.size_append, show (⟨#[58, 32]⟩ : ByteArray).size = 2 from rfl]
    omega
theorem putS_pos (a b : ByteArray) : 0 < (putS a b).size := by
  unfold putS
  by_cases h : b.size = 0
  · rw [if_pos h, ByteArray.size_append, show (⟨#[58]⟩ : ByteArray).size = 1 from rfl]
    omega
  · rw [if_neg h, ByteArray.size_append, ByteArray.size_append, show (⟨#[58, 32]⟩ : ByteArray).size = 2 from rfl]
    omega
theorem nil_size (b : ByteArray) : (b.toList = ([] : List UInt8)) ↔ b.size = 0 := by
  rw [ByteArray.toList_eq, size_eq_length]
  exact List.length_eq_zero_iff.symm
theorem ref05_Put (a b : ByteArray) (ha : a.size ≤ 140737488351232) (hb : b.size ≤ 140737488351232) : catchpitref05_Put.f a b = some (putS a b) := by
  unfold catchpitref05_Put.f putS
  by_cases h : b.size = 0
  · rw [if_pos (by omega), if_pos (by omega), if_pos h]
  · rw [if_neg (by omega), if_pos (by omega), if_pos (by rw [ByteArray.size_append, show (⟨#[58, 32]⟩ : ByteArray).size = 2 from rfl]; omega), if_neg h]
theorem field_Put_eq (a b : ByteArray) (ha : a.size ≤ 140737488351232) (hb : b.size ≤ 140737488351232) : field_Put.f a b = some (if rightB a b then putS a b else ⟨#[]⟩, if rightB a b then 0 else 1) := by
  unfold field_Put.f putS
  rw [field_Right_eq a b (by omega) (by omega), Option.bind_some]
  cases rightB a b with
  | false => rfl
  | true =>
    rw [if_pos rfl, if_pos rfl, if_pos rfl]
    by_cases h : b.size = 0
    · rw [if_pos ((nil_size b).2 h), if_pos (by omega), if_pos h]
    · rw [if_neg (fun e => h ((nil_size b).1 e)), if_pos (by omega), if_pos (by rw [ByteArray.size_append, show (⟨#[58, 32]⟩ : ByteArray).size = 2 from rfl]; omega), if_neg h]
end Go.Proofs.YtdkecmjoenfjdaaDoorH
