/- Blanks around a value make no difference to the field. -/
import Derived.Test.YtdkecmjoenfjdaaDoorQLine
import Derived.Test.YtdkecmjoenfjdaaDoorPrx8
namespace Go.Proofs.YtdkecmjoenfjdaaDoor.Pure
open Go.RowKit Go.Proofs.YtdkecmjoenfjdaaDoorH Go.Proofs.YtdkecmjoenfjdaaDoor.Pr Go.Proofs.YtdkecmjoenfjdaaDoorW.PrintWords Go.Proofs.YtdkecmjoenfjdaaDoorW.PrintLast

theorem Blanks_l1 (a b : ByteArray) (bl : List UInt8) (hr : rightB a b = true) (hbl : bl.all blankU = true) (k : Nat) (m : Nat) (d : Nat) : ∀ (i : Nat) (s : ByteArray) (br : List UInt8), i ≤ m → m - i = d → m ≤ 4 → s.size + (m - i) ≤ 1000 →
    s.data.toList = a.data.toList ++ 58 :: (bl ++ (b.data.toList ++ br)) → br.all blankU = true → catchpitlaw05_FieldBlanks.l1 (k + d + 1) s (m : Int) (i : Int) a b = some true := by
  induction d with
  | zero =>
    intro i s br h1 h2 h3 h4 hs hb
    obtain ⟨p1, p2, p3⟩ := parse_line s a b bl br hs hbl hb hr
    rw [catchpitlaw05_FieldBlanks.l1, if_neg (by omega), field_Parse_eq s (by omega), Option.bind_some, p1, p2, p3]
    simp
  | succ d ih =>
    intro i s br h1 h2 h3 h4 hs hb
    have hz : (s ++ (⟨#[9]⟩ : ByteArray)).size = s.size + 1 := by rw [ByteArray.size_append]; rfl
    rw [catchpitlaw05_FieldBlanks.l1, if_pos (by omega), if_pos (by omega), show wrap64 ((i : Int) + 1) = ((i + 1 : Nat) : Int) by unfold wrap64; omega]
    refine ih (i + 1) _ (br ++ [9]) (by omega) (by omega) h3 (by omega) ?_ (by rw [List.all_append, hb]; rfl)
    rw [data_append, hs]
    simp

theorem Blanks_l0 (a b : ByteArray) (hr : rightB a b = true) (hb3 : b.size ≤ 300) (x2 : Int) (hm0 : ∃ m : Nat, Int.tmod (wrap64 x2) 5 = (m : Int) ∧ m ≤ 4) (n : Nat) (d : Nat) : ∀ (i : Nat) (s : ByteArray) (bl : List UInt8), i ≤ n → n - i = d → n ≤ 4 → s.size + (n - i) ≤ 600 →
    s.data.toList = a.data.toList ++ 58 :: bl → bl.all blankU = true → ∃ K, catchpitlaw05_FieldBlanks.l0 (K + d + 1) x2 s (n : Int) (i : Int) a b = some true := by
  obtain ⟨m, hm, hm4⟩ := hm0
  induction d with
  | zero =>
    intro i s bl h1 h2 h3 h4 hs hb
    refine ⟨m + 1, ?_⟩
    have hz : (s ++ b).size = s.size + b.size := ByteArray.size_append
    rw [catchpitlaw05_FieldBlanks.l0, if_neg (by omega), if_pos (by omega), hm]
    have := Blanks_l1 a b bl hr hb 0 m m 0 (s ++ b) [] (by omega) (by omega) hm4 (by omega) (by rw [data_append, hs]; simp) rfl
    rw [Nat.zero_add] at this
    exact this
  | succ d ih =>
    intro i s bl h1 h2 h3 h4 hs hb
    have hz : (s ++ (⟨#[32]⟩ : ByteArray)).size = s.size + 1 := by rw [ByteArray.size_append]; rfl
    obtain ⟨K, hK⟩ := ih (i + 1) (s ++ (⟨#[32]⟩ : ByteArray)) (bl ++ [32]) (by omega) (by omega) h3 (by omega) (by rw [data_append, hs]; simp) (by rw [List.all_append, hb]; rfl)
    refine ⟨K, ?_⟩
    rw [show K + (d + 1) + 1 = (K + d + 1) + 1 by omega, catchpitlaw05_FieldBlanks.l0, if_pos (by omega), if_pos (by omega), show wrap64 ((i : Int) + 1) = ((i + 1 : Nat) : Int) by unfold wrap64; omega]
    exact hK

theorem mod5 (c : Int) (h : (Lit.int .u8 c).wf = true) : ∃ m : Nat, Int.tmod (wrap64 c) 5 = (m : Int) ∧ m ≤ 4 := by
  have h1 : IntKind.u8.min = 0 := rfl
  have h2 : IntKind.u8.max = 255 := rfl
  simp [Lit.wf, h1, h2] at h
  obtain ⟨n, rfl⟩ := Int.eq_ofNat_of_zero_le (by omega : 0 ≤ c)
  refine ⟨n % 5, ?_, by omega⟩
  rw [show wrap64 ((n : Nat) : Int) = ((n : Nat) : Int) by unfold wrap64; omega]
  exact (Int.ofNat_tmod n 5).symm

theorem FieldBlanks (x : S24) (c e : Int) (hx : x.f0.size ≤ 140737488351232 ∧ x.f1.size ≤ 140737488351232) (hc : (Lit.int .u8 c).wf = true) (he : (Lit.int .u8 e).wf = true) : ∃ k, catchpitlaw05_FieldBlanks.f k x.f0 x.f1 c e = some true := by
  by_cases h3 : x.f0.size ≤ 300 ∧ x.f1.size ≤ 300
  · obtain ⟨K, hK⟩ := ref05_Right x.f0 x.f1 (by omega) (by omega)
    cases hr : rightB x.f0 x.f1 with
    | false =>
      refine ⟨K + 1, ?_⟩
      have hK := hK (K + 1) (by omega)
      simp only at hK
      rw [catchpitlaw05_FieldBlanks.f, wakes05, Option.bind_some, if_pos rfl, if_neg (by omega), if_neg (by omega), hK, Option.bind_some, hr]
      rfl
    | true =>
      obtain ⟨n, hn, hn4⟩ := mod5 c hc
      have hz : (x.f0 ++ (⟨#[58]⟩ : ByteArray)).size = x.f0.size + 1 := by rw [ByteArray.size_append]; rfl
      obtain ⟨K2, hK2⟩ := Blanks_l0 x.f0 x.f1 hr h3.2 e (mod5 e he) n n 0 (x.f0 ++ (⟨#[58]⟩ : ByteArray)) [] (by omega) (by omega) hn4 (by omega) (by rw [data_append]) rfl
      have mono : ∀ q, catchpitlaw05_FieldBlanks.l0 (K2 + n + 1 + q) e (x.f0 ++ (⟨#[58]⟩ : ByteArray)) (n : Int) ((0 : Nat) : Int) x.f0 x.f1 = some true := by
        intro q
        induction q with
        | zero => exact hK2
        | succ q ih => exact (catchpitlaw05_FieldBlanks.mono_l _).2.1 _ _ _ _ _ _ _ ih
      refine ⟨K2 + n + 1 + K + 1, ?_⟩
      have hK := hK (K2 + n + 1 + K + 1) (by omega)
      simp only at hK
      rw [catchpitlaw05_FieldBlanks.f, wakes05, Option.bind_some, if_pos rfl, if_neg (by omega), if_neg (by omega), hK, Option.bind_some, hr]
      show catchpitlaw05_FieldBlanks.j0 (K2 + n + 1 + K + 1) c e false x.f0 x.f1 = _
      rw [catchpitlaw05_FieldBlanks.j0, if_neg (by simp), if_pos (by omega), hn]
      exact mono K
  · refine ⟨1, ?_⟩
    rw [catchpitlaw05_FieldBlanks.f, wakes05, Option.bind_some, if_pos rfl]
    by_cases h : (x.f0.size : Int) > 300
    · rw [if_pos h]
      rfl
    · rw [if_neg h, if_pos (by omega)]
      rfl
end Go.Proofs.YtdkecmjoenfjdaaDoor.Pure
