import Derived.Test.YtmdnomeelkmaoaaDoorPvx
namespace Go.Proofs.YtmdnomeelkmaoaaDoorV
open Go.RowKit Go.Proofs.YtmdnomeelkmaoaaDoorW.PrintWords Go.Proofs.YtmdnomeelkmaoaaDoorW.PrintLast Go.Proofs.YtmdnomeelkmaoaaDoorW.PrintMore Go.Proofs.YtmdnomeelkmaoaaDoor.Pv

theorem ref19_Word (n : Int) : catchpitref19_Word.f n = some (wordF n) := by
  by_cases h0 : n < 0
  · unfold catchpitref19_Word.f wordF
    rw [if_pos h0, if_neg (by omega)]
  · by_cases h7 : n > 7
    · unfold catchpitref19_Word.f wordF
      rw [if_neg h0, if_pos h7, if_neg (by omega)]
    · obtain ⟨m, rfl⟩ := Int.eq_ofNat_of_zero_le (by omega : 0 ≤ n)
      have : ∀ n : Fin 8, catchpitref19_Word.f (n.val : Int) = some (wordF (n.val : Int)) := by decide +kernel
      exact this ⟨m, by omega⟩

theorem bytes_ext {a b : ByteArray} (h : a.toList = b.toList) : a = b := by
  rw [ByteArray.toList_eq, ByteArray.toList_eq] at h
  exact ByteArray.ext (Array.toList_inj.1 h)
theorem word_drop (i : Nat) (h : i < 8) : wordsL.drop i = wordF (i : Int) :: wordsL.drop (i + 1) := by
  have : ∀ n : Fin 8, wordsL.drop n.val = wordF (n.val : Int) :: wordsL.drop (n.val + 1) := by decide +kernel
  exact this ⟨i, h⟩

theorem ref19_Find_l0 (s : ByteArray) (d : Nat) : ∀ (k i : Nat), i ≤ 8 → 8 - i = d → d < k →
    catchpitref19_Find.l0 k s (i : Int) = some (max (Lib.idxFromS (wordsL.drop i) s i) 0, decide (0 ≤ Lib.idxFromS (wordsL.drop i) s i)) := by
  induction d with
  | zero =>
    intro k i h1 hd hk
    obtain ⟨k, rfl⟩ : ∃ m, k = m + 1 := ⟨k - 1, by omega⟩
    obtain rfl : i = 8 := by omega
    simp only [catchpitref19_Find.l0]
    rw [if_neg (by omega)]
    rfl
  | succ d ih =>
    intro k i h1 hd hk
    obtain ⟨k, rfl⟩ : ∃ m, k = m + 1 := ⟨k - 1, by omega⟩
    rw [catchpitref19_Find.l0, if_pos (by omega), ref19_Word, Option.bind_some, word_drop i (by omega)]
    unfold Lib.idxFromS
    by_cases h : wordF (i : Int) = s
    · rw [if_pos (by rw [h]), if_pos h]
      simp
    · rw [if_neg (fun e => h (bytes_ext e)), if_neg h, show wrap64 ((i : Int) + 1) = ((i + 1 : Nat) : Int) by unfold wrap64; omega]
      exact ih k (i + 1) (by omega) (by omega) (by omega)

theorem ref19_Find (s : ByteArray) (k : Nat) (hk : 8 < k) : catchpitref19_Find.f k s = some (max (Lib.idxOfS wordsL s) 0, decide (0 ≤ Lib.idxOfS wordsL s)) := by
  have := ref19_Find_l0 s 8 k 0 (by omega) (by omega) hk
  exact this

theorem of_same (k : Nat) (a : Int) : ∃ t, valve_Of.f (k + 1) a = some t ∧ catchpitref19_Of.f (k + 1) a = some t := by
  unfold valve_Of.f catchpitref19_Of.f
  simp only [valve_Of.j0, catchpitref19_Of.j0]
  repeat' split
  all_goals first | exact ⟨_, rfl, rfl⟩ | simp_all
end Go.Proofs.YtmdnomeelkmaoaaDoorV
