import Derived.Test.YtdkecmjoenfjdaaDoorZBlockScansP5
import Derived.Test.YtdkecmjoenfjdaaDoorZBlockScansP3
import Derived.Test.YtdkecmjoenfjdaaDoorZBlockScansP1
import Derived.Test.YtdkecmjoenfjdaaDoorZBlockScansP2
import Derived.Test.YtdkecmjoenfjdaaDoorZBlockScansP4
import Derived.Test.YtdkecmjoenfjdaaDoorRows
import Derived.LaidSub
import Derived.MakeChecks
import Derived.ProofKit
import Derived.OpenShut
import Derived.LaidMore
import Derived.Deep.Slices
import Derived.SizedLaws
import Derived.HandedShaped
import Derived.Handed
section
namespace Go.Proofs.YtdkecmjoenfjdaaDoorH
open Go.RowKit Go.Proofs.YtdkecmjoenfjdaaDoorW.PrintWords Go.Proofs.YtdkecmjoenfjdaaDoorW.PrintLast Go.Proofs.YtdkecmjoenfjdaaDoorW.PrintMore Go.Proofs.YtdkecmjoenfjdaaDoor.Pr
theorem four : ¬((4 : Int) = 0) := by decide
theorem two : ¬((2 : Int) = 0) := by decide
theorem four5 : ¬((4 : Int) = 5) := by decide
theorem scan_bad (T : List UInt8) (i w : Nat) (h : LineIs T (w : Int)) (h13 : ∀ l, T ≠ 13 :: l) : scanL i T 0 = (i + w, 2) := by
  generalize hq : (w : Int) = q at h
  cases h with
  | open_ a ha => omega
  | bad a d r ha hd h =>
    obtain rfl : w = a.length := by omega
    by_cases h0 : a = []
    · subst h0
      have hd13 : d ≠ 13 := fun e => h13 r (by rw [e]; rfl)
      rw [List.nil_append, scanL, nxt0, if_neg hd13, hd, if_neg (by decide)]
      rfl
    · have h58 : d ≠ 58 := h.resolve_right h0
      rw [scanL_head a i _ ha h0, scanL, nxt1, if_neg h58, hd, if_neg (by decide)]
  | open2 a v ha hne hv => omega
  | bad2 a v e r ha hne hv he h =>
    obtain rfl : w = a.length + 1 + v.length := by omega
    rw [scanL_head a i _ ha hne, scanL_colon, scanL_value v _ _ hv, scanL, nxt2, if_neg h, he, if_neg (by decide)]
    congr 1
    omega
  | open3 a v ha hne hv => omega
  | bad3 a v e r ha hne hv h =>
    obtain rfl : w = a.length + 1 + v.length + 1 := by omega
    rw [scanL_head a i _ ha hne, scanL_colon, scanL_value v _ _ hv, scanL_cr, scanL, nxt3, show (e == 10) = false by rw [beq_eq_false_iff_ne]; exact h, if_neg (by decide)]
    congr 1
    omega
  | good a v r ha hne hv => omega
theorem no13_name (a : List UInt8) (ha : ∀ c ∈ a, tokU c = true) : ∀ c ∈ a, c ≠ 13 := fun c hc => (tok_ne c (ha c hc)).2.1
theorem no13_line (a v : List UInt8) (ha : ∀ c ∈ a, tokU c = true) (hv : ∀ c ∈ v, textU c = true) : ∀ c ∈ a ++ 58 :: v, c ≠ 13 := fun c hc => by
  rcases List.mem_append.1 hc with h | h
  · exact no13_name a ha c h
  · rcases List.mem_cons.1 h with rfl | h
    · decide
    · exact (text_ne c (hv c h)).1
theorem scan_open (T : List UInt8) (i : Nat) (h : LineIs T (-1)) (hne0 : T ≠ []) : (endL 0 T = -1 ∧ scanL i T 0 = (i + T.length, 4)) ∨
    ∃ a v r, T = a ++ 58 :: (v ++ 13 :: 10 :: r) ∧ (∀ c ∈ a, tokU c = true) ∧ a ≠ [] ∧ (∀ c ∈ v, textU c = true) := by
  generalize hq : (-1 : Int) = q at h
  cases h with
  | open_ a ha =>
    refine .inl ⟨(endL_none _ 0 (no13_name _ ha)).1, ?_⟩
    have := scanL_head T i [] ha hne0
    rw [List.append_nil] at this
    rw [this]
    rfl
  | bad a d r ha hd h => omega
  | open2 a v ha hne hv =>
    refine .inl ⟨(endL_none _ 0 (no13_line a v ha hv)).1, ?_⟩
    have := scanL_value v (i + a.length + 1) [] hv
    rw [List.append_nil] at this
    rw [scanL_head a i _ ha hne, scanL_colon, this]
    show (_, (4 : Int)) = _
    congr 1
    simp only [List.length_append, List.length_cons]
    omega
  | bad2 a v e r ha hne hv he h => omega
  | open3 a v ha hne hv =>
    refine .inl ⟨?_, ?_⟩
    · have := (endL_none (a ++ 58 :: v) 0 (no13_line a v ha hv)).2
      rw [List.append_assoc] at this
      exact this
    · rw [scanL_head a i _ ha hne, scanL_colon, scanL_value v _ _ hv, scanL_cr]
      show (_, (4 : Int)) = _
      congr 1
      simp only [List.length_append, List.length_cons, List.length_nil]
      omega
  | bad3 a v e r ha hne hv h => omega
  | good a v r ha hne hv => exact .inr ⟨a, v, r, rfl, ha, hne, hv⟩
theorem extract0_drop (s : ByteArray) (p i : Nat) : (s.extract 0 p).data.toList.drop i = (s.data.toList.drop i).take (p - i) := by
  rw [extract_to, List.drop_take]
theorem lines_line (s : ByteArray) (i p f : Nat) (ln r : List UInt8) (hd : s.data.toList.drop i = ln ++ 13 :: 10 :: r) (hn : ∀ c ∈ ln, c ≠ 13) (hp : i + ln.length + 2 ≤ p) :
    linesOf (f + 1) (s.extract 0 p) i = (i, ⟨ln.toArray⟩) :: (if ln.isEmpty = true then [] else linesOf f (s.extract 0 p) (i + ln.length + 2)) := by
  refine linesOf_cons f _ i ln (r.take (p - i - ln.length - 2)) ?_ hn
  rw [extract0_drop, hd, List.take_append, List.take_of_length_le (by omega)]
  obtain ⟨m, hm⟩ : ∃ m, p - i - ln.length = m + 2 := ⟨p - i - ln.length - 2, by omega⟩
  rw [hm]
  rfl
theorem bt0 {s : ByteArray} {c : UInt8} {l : List UInt8} (h : s.data.toList = c :: l) : 0 < s.size ∧ bt s 0 = (c.toNat : Int) ∧ s.data.toList.drop 1 = l := by
  have := drop_step (s := s) (i := 0) (c := c) (l := l) (by rw [List.drop_zero]; exact h)
  exact this
theorem Scan_l0 (s : ByteArray) (hs : s.size ≤ 100000) : ∀ (n i : Nat), i ≤ s.size → s.size - i ≤ n → ∃ fs : List Fld, (∀ f, (scanL i (s.data.toList.drop i) 0).1 - i < f → (scanL i (s.data.toList.drop i) 0).2 = 0 → fieldsOf (linesOf f (s.extract 0 (scanL i (s.data.toList.drop i) 0).1) i) = fs) ∧
    ∀ acc : List Fld, acc.length ≤ i → ∃ K, ∀ k, K ≤ k → catchpitref06_Scan.l0 k s acc (i : Int) = some (if (scanL i (s.data.toList.drop i) 0).2 = 0 then (acc ++ fs, (((scanL i (s.data.toList.drop i) 0).1 : Nat) : Int), 0) else ([], (((scanL i (s.data.toList.drop i) 0).1 : Nat) : Int), (scanL i (s.data.toList.drop i) 0).2)) := by
  intro n
  induction n with
  | zero =>
    intro i hi hn
    obtain rfl : i = s.size := by omega
    have hd : s.data.toList.drop s.size = [] := List.drop_eq_nil_of_le (by rw [← size_eq_length]; exact Nat.le_refl _)
    have hz : (s.extract s.size s.size).size = 0 := by rw [size_eq_length, extract_from, hd]; rfl
    rw [hd]
    refine ⟨[], fun f _ h => absurd h four, fun acc hacc => ⟨2, fun k hk => ?_⟩⟩
    obtain ⟨k, rfl⟩ : ∃ m, k = m + 2 := ⟨k - 2, by omega⟩
    rw [catchpitref06_Scan.l0, if_pos (by omega), if_pos (by omega), Int.toNat_natCast, if_pos (by omega), catchpitref06_Scan.j1, if_pos rfl, scanL, if_neg four]
  | succ n ih =>
    intro i hi hn
    have hT : (s.extract i s.size).data.toList = s.data.toList.drop i := extract_from s i
    have hTz : (s.extract i s.size).size = s.size - i := by rw [size_eq_length, hT, List.length_drop, ← size_eq_length]
    have hTl : (s.extract i s.size).toList = s.data.toList.drop i := by rw [ByteArray.toList_eq, hT]
    generalize ht : s.extract i s.size = t at hT hTz hTl
    cases hL : s.data.toList.drop i with
    | nil =>
      have := drop_nil hi hL
      obtain ⟨fs, h1, h2⟩ := ih i hi (by omega)
      rw [hL] at h1 h2
      exact ⟨fs, h1, h2⟩
    | cons c l =>
      have hsz := congrArg List.length hL
      rw [List.length_drop, ← size_eq_length, List.length_cons] at hsz
      rw [hL] at hT hTl
      obtain ⟨b1, b2, b3⟩ := bt0 hT
      by_cases h13 : c = 13
      · subst h13
        cases l with
        | nil =>
          have hsc : scanL i [13] 0 = (i + 1, 4) := by rw [scanL, nxt0, if_pos rfl, if_pos rfl, if_neg four5, scanL]
          rw [hsc]
          refine ⟨[], fun f _ h => absurd h four, fun acc hacc => ⟨2, fun k hk => ?_⟩⟩
          obtain ⟨k, rfl⟩ : ∃ m, k = m + 2 := ⟨k - 2, by omega⟩
          rw [catchpitref06_Scan.l0, if_pos (by omega), if_pos (by omega), Int.toNat_natCast, ht, if_neg (by omega), hTl, catchpitref06_Scan.j1, if_pos (by rfl), if_neg four]
          congr 3
          simp only [List.length_nil] at hsz
          omega
        | cons d m =>
          have hT1 : t.data.toList.drop 1 = d :: m := b3
          obtain ⟨e1, e2, e3⟩ := drop_step hT1
          have e2 : bt t 1 = (d.toNat : Int) := e2
          have hsc : scanL i (13 :: d :: m) 0 = if d = 10 then (i + 2, 0) else (i + 1, 2) := by
            rw [scanL, nxt0, if_pos rfl, if_pos rfl, if_neg four5, scanL, nxt4]
            by_cases h10 : d = 10
            · rw [if_pos h10, h10]; rfl
            · rw [if_neg h10, show (d == 10) = false by rw [beq_eq_false_iff_ne]; exact h10]; rfl
          simp only [List.length_cons] at hsz
          by_cases h10 : d = 10
          · subst h10
            rw [hsc, if_pos rfl]
            refine ⟨[], fun f hf _ => ?_, fun acc hacc => ⟨2, fun k hk => ?_⟩⟩
            · obtain ⟨f, rfl⟩ : ∃ m, f = m + 1 := ⟨f - 1, by omega⟩
              rw [lines_line s i (i + 2) f [] m hL (fun _ h => absurd h List.not_mem_nil) (Nat.le_refl _)]
              rfl
            · obtain ⟨k, rfl⟩ : ∃ m, k = m + 2 := ⟨k - 2, by omega⟩
              rw [catchpitref06_Scan.l0, if_pos (by omega), if_pos (by omega), Int.toNat_natCast, ht, if_neg (by omega), hTl, catchpitref06_Scan.j1, if_neg (by simp), if_pos (by omega), b2, if_pos (by decide), if_pos (by omega), e2, if_pos (by decide), if_pos rfl, List.append_nil]
              congr 3
              unfold wrap64
              omega
          · rw [hsc, if_neg h10]
            refine ⟨[], fun f _ h => absurd h two, fun acc hacc => ⟨2, fun k hk => ?_⟩⟩
            obtain ⟨k, rfl⟩ : ∃ m, k = m + 2 := ⟨k - 2, by omega⟩
            rw [catchpitref06_Scan.l0, if_pos (by omega), if_pos (by omega), Int.toNat_natCast, ht, if_neg (by omega), hTl, catchpitref06_Scan.j1, if_neg (by simp), if_pos (by omega), b2, if_pos (by decide), if_pos (by omega), e2, if_neg (show ¬(d.toNat : Int) = 10 from fun e => h10 ((toNat_eq d 10).1 e)), if_neg two]
            congr 3
            unfold wrap64
            omega
      · have hj : ∀ k acc, catchpitref06_Scan.l0 (k + 2) s acc (i : Int) = (catchpitref06_Wrong.f k t).bind fun t306 => (if t306 ≥ 0 then (some (([] : List Fld), wrap64 ((i : Int) + t306), 2)) else ((catchpitref06_End.f k t).bind fun t307 => (if t307 < 0 then (some (([] : List Fld), (s.size : Int), 4)) else (if 0 ≤ (wrap64 (t307 - 2)) then (if (wrap64 (t307 - 2)) ≤ (t.size : Int) then ((catchpitref05_Parse.f k (t.extract 0 ((wrap64 (t307 - 2)) : Int).toNat)).bind fun bt308 => (if acc.length < 4398046511104 then (catchpitref06_Scan.l0 k s (acc ++ [(⟨bt308.1, bt308.2.1⟩ : Fld)]) (wrap64 ((i : Int) + t307))) else (none))) else (none)) else (none))))) := by
          intro k acc
          have hne : (c :: l == ([13] : List UInt8)) = false := by
            rw [beq_eq_false_iff_ne]
            intro e
            injection e with e1 e2
            exact h13 e1
          rw [catchpitref06_Scan.l0, if_pos (by omega), if_pos (by omega), Int.toNat_natCast, ht, if_neg (by omega), hTl, hne, catchpitref06_Scan.j1, if_neg (by decide), if_pos (by omega), b2, if_neg (show ¬(c.toNat : Int) = 13 from fun e => h13 ((toNat_eq c 13).1 e))]
        obtain ⟨q, hq⟩ := line_is (c :: l)
        have hW := fun k hk => ref06_Wrong t (by omega) q (by rw [hT]; exact hq) k hk
        have hE := fun k hk => ref06_End t (by omega) k hk
        rw [hT] at hE
        by_cases hq0 : 0 ≤ q
        · obtain ⟨w, rfl⟩ := Int.eq_ofNat_of_zero_le hq0
          have hsc := scan_bad (c :: l) i w hq (fun l' e => by injection e with e1 e2; exact h13 e1)
          have hwl := (scanL_ge (c :: l) i 0).2
          rw [hsc] at hwl
          simp only [List.length_cons] at hwl
          rw [hsc]
          refine ⟨[], fun f _ h => absurd h two, fun acc hacc => ⟨2 * t.size + 12, fun k hk => ?_⟩⟩
          obtain ⟨k, rfl⟩ : ∃ m, k = m + 2 := ⟨k - 2, by omega⟩
          rw [hj, hW k (by omega), Option.bind_some, if_pos hq0, if_neg two]
          congr 3
          unfold wrap64
          omega
        · have hq1 : q = -1 := by
            generalize hcl : c :: l = T at hq
            cases hq <;> omega
          subst hq1
          rcases scan_open (c :: l) i hq (by simp) with ⟨hen, hsc⟩ | ⟨a, v, r, hdec, ha, hne, hv⟩
          · rw [hsc]
            refine ⟨[], fun f _ h => absurd h four, fun acc hacc => ⟨2 * t.size + 12, fun k hk => ?_⟩⟩
            obtain ⟨k, rfl⟩ : ∃ m, k = m + 2 := ⟨k - 2, by omega⟩
            rw [hj, hW k (by omega), Option.bind_some, if_neg (by omega), hE k (by omega), hen, Option.bind_some, if_pos (by omega), if_neg four]
            congr 3
            simp only [List.length_cons]
            omega
          · have hnl := no13_line a v ha hv
            have hdec2 : c :: l = (a ++ 58 :: v) ++ 13 :: 10 :: r := by rw [hdec, List.append_assoc]; rfl
            have hend := endL_line (a ++ 58 :: v) 0 r hnl
            rw [← hdec2] at hend
            have hlen : (a ++ 58 :: v).length = a.length + v.length + 1 := by simp only [List.length_append, List.length_cons]; omega
            have hzz := congrArg List.length hdec2
            rw [List.length_append, hlen] at hzz
            simp only [List.length_cons] at hzz
            have hdr : s.data.toList.drop (i + (a.length + v.length + 3)) = r := by
              rw [← List.drop_drop, hL, hdec2, show a.length + v.length + 3 = (a ++ 58 :: v).length + 2 by rw [hlen], ← List.drop_drop, List.drop_left]
              rfl
            obtain ⟨fs, hf, hk⟩ := ih (i + (a.length + v.length + 3)) (by omega) (by omega)
            rw [hdr] at hf hk
            have hsc := scanL_line a v i r ha hne hv
            rw [← hdec] at hsc
            have hge := (scanL_ge r (i + (a.length + v.length + 3)) 0).1
            rw [hsc]
            generalize scanL (i + (a.length + v.length + 3)) r 0 = z at hf hk hge
            refine ⟨fldOf ⟨(a ++ 58 :: v).toArray⟩ :: fs, fun f hf1 h0 => ?_, fun acc hacc => ?_⟩
            · obtain ⟨f, rfl⟩ : ∃ m, f = m + 1 := ⟨f - 1, by omega⟩
              rw [lines_line s i z.1 f (a ++ 58 :: v) r (by rw [hL, hdec2]) hnl (by rw [hlen]; omega), fieldsOf, if_neg (show ¬(((i, (⟨(a ++ 58 :: v).toArray⟩ : ByteArray)) : Nat × ByteArray).2.size = 0) from (show ¬(a ++ 58 :: v).length = 0 by rw [hlen]; omega)), if_neg (by cases a <;> simp), hlen, show i + (a.length + v.length + 1) + 2 = i + (a.length + v.length + 3) by omega, hf f (by omega) h0]
            · obtain ⟨K1, hK1⟩ := hk (acc ++ [fldOf ⟨(a ++ 58 :: v).toArray⟩]) (by rw [List.length_append, List.length_singleton]; omega)
              have hpz : (⟨(a ++ 58 :: v).toArray⟩ : ByteArray).size ≤ 140737488355328 := by
                show (a ++ 58 :: v).length ≤ _
                rw [hlen]; omega
              obtain ⟨K2, hK2⟩ := ref05_Parse ⟨(a ++ 58 :: v).toArray⟩ hpz
              refine ⟨2 * t.size + 12 + K1 + K2, fun k hk => ?_⟩
              obtain ⟨k, rfl⟩ : ∃ m, k = m + 2 := ⟨k - 2, by omega⟩
              have hex : t.extract 0 (a.length + v.length + 1) = ⟨(a ++ 58 :: v).toArray⟩ := bytes_ext (by rw [extract_to, hT, hdec2, ← hlen, List.take_left])
              have hp := hK2 k (by omega)
              simp only at hp
              rw [hlen] at hend
              rw [hj, hW k (by omega), Option.bind_some, if_neg (by omega), hE k (by omega), hend, Option.bind_some, if_neg (by omega), show wrap64 ((((0 + (a.length + v.length + 1) + 2 : Nat)) : Int) - 2) = ((a.length + v.length + 1 : Nat) : Int) by unfold wrap64; omega, if_pos (by omega), if_pos (by omega), Int.toNat_natCast, hex, hp, Option.bind_some, if_pos (by omega), show wrap64 ((i : Int) + ((0 + (a.length + v.length + 1) + 2 : Nat) : Int)) = ((i + (a.length + v.length + 3) : Nat) : Int) by unfold wrap64; omega]
              have := hK1 k (by omega)
              rw [List.append_assoc] at this
              exact this
theorem ref06_Scan (s : ByteArray) (hs : s.size ≤ 100000) : Ev (fun k => catchpitref06_Scan.f k s) (scanR s) := by
  obtain ⟨fs, h1, h2⟩ := Scan_l0 s hs s.size 0 (Nat.zero_le _) (by omega)
  obtain ⟨K, hK⟩ := h2 [] (Nat.zero_le _)
  refine ⟨K, fun k hk => ?_⟩
  have := hK k hk
  show catchpitref06_Scan.l0 k s [] 0 = _
  rw [show ((0 : Nat) : Int) = 0 from rfl] at this
  rw [this]
  unfold scanR
  rw [scanP_whole, List.nil_append]
  rw [List.drop_zero] at h1
  rw [List.drop_zero]
  by_cases h0 : (scanL 0 s.data.toList 0).2 = 0
  · rw [if_pos h0, if_pos h0]
    have hle := (scanL_ge s.data.toList 0 0).2
    rw [← size_eq_length] at hle
    rw [h1 _ (by rw [extract0_size _ _ (by omega)]; omega) h0]
  · rw [if_neg h0, if_neg h0]
theorem block_Scan_eq (s : ByteArray) (hs : s.size < 4000000000) : block_Scan.f s = some (scanR s) := by
  unfold block_Scan.f
  rw [if_pos hs]
theorem scanR_length (s : ByteArray) : (scanR s).1.length ≤ s.size + 1 := by
  unfold scanR
  split
  · have h1 := fieldsOf_length (linesOf ((s.extract 0 (scanP (s.size + 1) s 0 0).1).size + 1) (s.extract 0 (scanP (s.size + 1) s 0 0).1) 0)
    have h2 := linesOf_length ((s.extract 0 (scanP (s.size + 1) s 0 0).1).size + 1) (s.extract 0 (scanP (s.size + 1) s 0 0).1) 0
    have h3 := (scanL_ge s.data.toList 0 0).2
    rw [← size_eq_length, ← scanP_whole] at h3
    rw [extract0_size _ _ (by omega)] at h1 h2
    show (fieldsOf _).length ≤ _
    rw [extract0_size _ _ (by omega)]
    omega
  · exact Nat.zero_le _
end Go.Proofs.YtdkecmjoenfjdaaDoorH
end
section
namespace Go.Proofs.YtdkecmjoenfjdaaDoor.Pr
open Go.RowKit Go.Proofs.YtdkecmjoenfjdaaDoorH Go.Proofs.YtdkecmjoenfjdaaDoorW.PrintWords Go.Proofs.YtdkecmjoenfjdaaDoorW.PrintLast Go.Proofs.YtdkecmjoenfjdaaDoorW.PrintMore
attribute [local go_sem] max2_int min2_int max_two min_two max_three min_three max_four min_four   -- for this text's walks alone
set_option linter.unusedVariables false
set_option linter.unusedSimpArgs false
def catchpitref06_Put.l0 : Nat → List (S24) → ByteArray → Int → Option (ByteArray × Bool)
  | 0, _, _, _ => none
  | k + 1, x0, x4, x5 => if x5 < (x0.length : Int) then (if 0 ≤ x5 then ((catchpitref05_Right.f k ((rd_T24 x0 x5).f0) ((rd_T24 x0 x5).f1)).bind fun t329 => (if t329 = true then ((catchpitref05_Put.f ((rd_T24 x0 x5).f0) ((rd_T24 x0 x5).f1)).bind fun t331 => (if x4.size + t331.size ≤ 9223372036854775807 then (if (x4 ++ t331).size + 2 ≤ 9223372036854775807 then (catchpitref06_Put.l0 k x0 ((x4 ++ t331) ++ (⟨#[13, 10]⟩ : ByteArray)) (wrap64 (x5 + 1))) else (none)) else (none))) else (some ((⟨#[]⟩ : ByteArray), false)))) else (none)) else (if x4.size + 2 ≤ 9223372036854775807 then (some (x4 ++ (⟨#[13, 10]⟩ : ByteArray), true)) else (none))
def catchpitref06_Put.f (k : Nat) (l0 : List (S24)) : Option (ByteArray × Bool) := catchpitref06_Put.l0 k l0 (⟨#[]⟩ : ByteArray) 0
theorem catchpitref06_Put.mono_l : ∀ k, (∀ y0 y1 y2, LeO (catchpitref06_Put.l0 k y0 y1 y2) (catchpitref06_Put.l0 (k + 1) y0 y1 y2))
  | 0 => fun _ _ _ r h => by simp [catchpitref06_Put.l0] at h
  | k + 1 => by
    have ih0 := catchpitref06_Put.mono_l k
    · intro y0 y1 y2
      unfold catchpitref06_Put.l0
      repeat' first
      | (with_reducible exact ih0 _ _ _)
      | (with_reducible exact catchpitref05_Right.mono _ _ _)
      | (with_reducible exact LeO.refl _)
      | (with_reducible exact LeO.none _)
      | (with_reducible refine LeO.ite ?_ ?_)
      | (with_reducible refine LeO.bind ?_ (fun _ => ?_))
      | exact ih0 _ _ _
      | exact catchpitref05_Right.mono _ _ _
      | exact LeO.none _
      | refine LeO.ite ?_ ?_
      | refine LeO.bind ?_ (fun _ => ?_)
theorem catchpitref06_Put.mono : ∀ a0 k, LeO (catchpitref06_Put.f k a0) (catchpitref06_Put.f (k + 1) a0) := by
  intro a0 k
  have ih0 := catchpitref06_Put.mono_l k
  unfold catchpitref06_Put.f
  repeat' first
      | (with_reducible exact ih0 _ _ _)
      | (with_reducible exact catchpitref05_Right.mono _ _ _)
      | (with_reducible exact LeO.refl _)
      | (with_reducible exact LeO.none _)
      | (with_reducible refine LeO.ite ?_ ?_)
      | (with_reducible refine LeO.bind ?_ (fun _ => ?_))
      | exact ih0 _ _ _
      | exact catchpitref05_Right.mono _ _ _
      | exact LeO.none _
      | refine LeO.ite ?_ ?_
      | refine LeO.bind ?_ (fun _ => ?_)
def block_Size.f (l0 : List (S24)) : Option (Int) := (block_Put.f l0).bind fun bt332 => (some (bt332.1.size : Int))
def catchpitlaw06_BlockPuts.j0 : Nat → List (S24) → ByteArray → Bool → Option (Bool)
  | 0, _, _, _ => none
  | k + 1, x0, x1, x20 => if x20 = true then (some true) else ((block_Put.f x0).bind fun bt336 => ((catchpitref06_Put.f k x0).bind fun bt338 => (if bt338.2 = true then (if bt336.1.size + x1.size ≤ 9223372036854775807 then ((block_Scan.f (bt336.1 ++ x1)).bind fun bt340 => (if bt336.1.toList = bt338.1.toList then (if bt336.2 = 0 then ((block_Size.f x0).bind fun t345 => (if t345 = (bt336.1.size : Int) then (if bt340.2.2 = 0 then (if bt340.2.1 = (bt336.1.size : Int) then ((catchpitref05_Fields.f k bt340.1 x0).bind fun t346 => (some t346)) else (some false)) else (some false)) else (some false))) else (some false)) else (some false))) else (none)) else (if bt336.1.toList = ([] : List UInt8) then (if bt336.2 = 1 then ((block_Size.f x0).bind fun t347 => (some (t347 == 0))) else (some false)) else (some false)))))
def catchpitlaw06_BlockPuts.f (k : Nat) (l0 : List (S24)) (a1 : ByteArray) : Option (Bool) := (catchpitlaw06_wakes.f).bind fun t334 => (if t334 = true then ((catchpitref05_Great.f k l0).bind fun t335 => (if t335 = true then (catchpitlaw06_BlockPuts.j0 k l0 a1 true) else (catchpitlaw06_BlockPuts.j0 k l0 a1 (decide ((a1.size : Int) > 200))))) else (some false))
theorem catchpitlaw06_BlockPuts.mono_l : ∀ k, (∀ y0 y1 y2, LeO (catchpitlaw06_BlockPuts.j0 k y0 y1 y2) (catchpitlaw06_BlockPuts.j0 (k + 1) y0 y1 y2))
  | 0 => fun _ _ _ r h => by simp [catchpitlaw06_BlockPuts.j0] at h
  | k + 1 => by
    have ih0 := catchpitlaw06_BlockPuts.mono_l k
    · intro y0 y1 y2
      unfold catchpitlaw06_BlockPuts.j0
      repeat' first
      | (with_reducible exact ih0 _ _ _)
      | (with_reducible exact catchpitref05_Fields.mono _ _ _)
      | (with_reducible exact catchpitref05_Great.mono _ _)
      | (with_reducible exact catchpitref06_Put.mono _ _)
      | (with_reducible exact LeO.refl _)
      | (with_reducible exact LeO.none _)
      | (with_reducible refine LeO.ite ?_ ?_)
      | (with_reducible refine LeO.bind ?_ (fun _ => ?_))
      | exact ih0 _ _ _
      | exact catchpitref05_Fields.mono _ _ _
      | exact catchpitref05_Great.mono _ _
      | exact catchpitref06_Put.mono _ _
      | exact LeO.none _
      | refine LeO.ite ?_ ?_
      | refine LeO.bind ?_ (fun _ => ?_)
theorem catchpitlaw06_BlockPuts.mono : ∀ a0 a1 k, LeO (catchpitlaw06_BlockPuts.f k a0 a1) (catchpitlaw06_BlockPuts.f (k + 1) a0 a1) := by
  intro a0 a1 k
  have ih0 := catchpitlaw06_BlockPuts.mono_l k
  unfold catchpitlaw06_BlockPuts.f
  repeat' first
      | (with_reducible exact ih0 _ _ _)
      | (with_reducible exact catchpitref05_Fields.mono _ _ _)
      | (with_reducible exact catchpitref05_Great.mono _ _)
      | (with_reducible exact catchpitref06_Put.mono _ _)
      | (with_reducible exact LeO.refl _)
      | (with_reducible exact LeO.none _)
      | (with_reducible refine LeO.ite ?_ ?_)
      | (with_reducible refine LeO.bind ?_ (fun _ => ?_))
      | exact ih0 _ _ _
      | exact catchpitref05_Fields.mono _ _ _
      | exact catchpitref05_Great.mono _ _
      | exact catchpitref06_Put.mono _ _
      | exact LeO.none _
      | refine LeO.ite ?_ ?_
      | refine LeO.bind ?_ (fun _ => ?_)
end Go.Proofs.YtdkecmjoenfjdaaDoor.Pr
end
section
namespace Go.Proofs.YtdkecmjoenfjdaaDoorH
open Go.RowKit Go.Proofs.YtdkecmjoenfjdaaDoorW.PrintWords Go.Proofs.YtdkecmjoenfjdaaDoorW.PrintLast Go.Proofs.YtdkecmjoenfjdaaDoorW.PrintMore Go.Proofs.YtdkecmjoenfjdaaDoor.Pr
theorem wakes06 : catchpitlaw06_wakes.f = some true := by
  unfold catchpitlaw06_wakes.f
  rw [block_Scan_eq _ (by decide), Option.bind_some, block_Scan_eq _ (by decide), Option.bind_some]
  decide +kernel
end Go.Proofs.YtdkecmjoenfjdaaDoorH
end
section
namespace Go.Proofs.YtdkecmjoenfjdaaDoor.Pure
open Go.RowKit Go.Proofs.YtdkecmjoenfjdaaDoorH Go.Proofs.YtdkecmjoenfjdaaDoor.Pr Go.Proofs.YtdkecmjoenfjdaaDoorW.PrintWords Go.Proofs.YtdkecmjoenfjdaaDoorW.PrintLast
theorem BlockScans : catchpitlaw06_BlockScans.Pure := by
  intro s hs
  by_cases hl : (s.size : Int) > 1000
  · exact ⟨1, by rw [catchpitlaw06_BlockScans.f, wakes06, Option.bind_some, if_pos rfl, if_pos hl]⟩
  have hn := scanR_length s
  obtain ⟨K1, h1⟩ := ref06_Scan s (by omega)
  obtain ⟨K2, h2⟩ := ref05_Fields (scanR s).1 (by omega)
  have h1 := h1 (K1 + K2) (by omega)
  have h2 := h2 (K1 + K2) (by omega)
  simp only at h1 h2
  refine ⟨K1 + K2, ?_⟩
  rw [catchpitlaw06_BlockScans.f, wakes06, Option.bind_some, if_pos rfl, if_neg hl, block_Scan_eq s (by omega), Option.bind_some, h1, Option.bind_some, h2, Option.bind_some, if_pos rfl, if_pos rfl]
  simp
end Go.Proofs.YtdkecmjoenfjdaaDoor.Pure
end
section
namespace Go.Proofs.YtdkecmjoenfjdaaDoorH
open Go.RowKit Go.ChangeShapes Go.WideShapes Go.ChangeAt
theorem two_of {α : Type} {l : List α} (h : l.length = 2) : ∃ a b, l = [a, b] := by
  match l, h with
  | [a, b], _ => exact ⟨a, b, rfl⟩
theorem three_of {α : Type} {l : List α} (h : l.length = 3) : ∃ a b c, l = [a, b, c] := by
  match l, h with
  | [a, b, c], _ => exact ⟨a, b, c, rfl⟩
theorem six_of {α : Type} {l : List α} (h : l.length = 6) : ∃ a b c d e f, l = [a, b, c, d, e, f] := by
  match l, h with
  | [a, b, c, d, e, f], _ => exact ⟨a, b, c, d, e, f, rfl⟩
theorem cells_of_one {W : World} {cs : List Value} {y : DataW Unit × List MemPlace} {m : Nat} {x0 : Int}
    (hd : DataW.trod (fun _ => ()) Tryd.prog W 0 (fun _ => true) false m 5 cs = some y) (hy : y.1 = .lit (.int .u8 x0)) : cs = [.int .u8 x0] := by
  obtain ⟨n, e1, e2, _⟩ := DataW.trod_int Tryd.underlying5 hd
  rw [e2] at hy
  simp only [DataW.lit.injEq, Lit.int.injEq, true_and] at hy
  rw [e1, hy]
theorem cells_of_pair {W : World} {cs : List Value} {y : DataW Unit × List MemPlace} {m : Nat} {x0 x1 : Int}
    (hd : DataW.trod (fun _ => ()) Tryd.prog W 0 (fun _ => true) false m 91 cs = some y) (hy : y.1 = .agg [.lit (.int .u8 x0), .lit (.int .u8 x1)]) :
    cs = [.int .u8 x0, .int .u8 x1] := by
  have c5 : Tryd.prog.cellsOf 5 = 1 := by kernel_rfl
  have c2 : Tryd.prog.cellsOf 91 = 2 := by kernel_rfl
  obtain ⟨xs, m, _, ex, hn, hl, hel⟩ := DataW.trod_array Tryd.underlying91 hd
  rw [c2] at hn
  obtain ⟨a, b, rfl⟩ := two_of hn
  obtain ⟨u, v, rfl⟩ := two_of hl
  · rw [ex] at hy
    simp only [List.map_cons, List.map_nil, DataW.agg.injEq, List.cons.injEq, and_true] at hy
    have h0 := hel 0 (by omega)
    have h1 := hel 1 (by omega)
    simp only [c5] at h0 h1
    have e0 := cells_of_one (y := u) (by simpa using h0) hy.1
    have e1 := cells_of_one (y := v) (by simpa using h1) hy.2
    simp at e0 e1
    rw [e0, e1]
theorem cells_of_pairs {W : World} {cs : List Value} {y : DataW Unit × List MemPlace} {m : Nat} {x0 x1 x2 x3 x4 x5 : Int}
    (hd : DataW.trod (fun _ => ()) Tryd.prog W 0 (fun _ => true) false m 92 cs = some y)
    (hy : y.1 = .agg [.agg [.lit (.int .u8 x0), .lit (.int .u8 x1)], .agg [.lit (.int .u8 x2), .lit (.int .u8 x3)], .agg [.lit (.int .u8 x4), .lit (.int .u8 x5)]]) :
    cs = [.int .u8 x0, .int .u8 x1, .int .u8 x2, .int .u8 x3, .int .u8 x4, .int .u8 x5] := by
  have c2 : Tryd.prog.cellsOf 91 = 2 := by kernel_rfl
  have c6 : Tryd.prog.cellsOf 92 = 6 := by kernel_rfl
  obtain ⟨xs, m, _, ex, hn, hl, hel⟩ := DataW.trod_array Tryd.underlying92 hd
  rw [c6] at hn
  obtain ⟨a, b, c, d, e, f, rfl⟩ := six_of hn
  obtain ⟨u, v, z, rfl⟩ := three_of hl
  · rw [ex] at hy
    simp only [List.map_cons, List.map_nil, DataW.agg.injEq, List.cons.injEq, and_true] at hy
    have h0 := hel 0 (by omega)
    have h1 := hel 1 (by omega)
    have h2 := hel 2 (by omega)
    simp only [c2] at h0 h1 h2
    have e0 := cells_of_pair (y := u) (by simpa using h0) hy.1
    have e1 := cells_of_pair (y := v) (by simpa using h1) hy.2.1
    have e2 := cells_of_pair (y := z) (by simpa using h2) hy.2.2
    simp at e0 e1 e2
    rw [e0.1, e0.2, e1.1, e1.2, e2.1, e2.2]
theorem tabOk_of_laid {W : World} {L : List (String × DataW Unit)} (h : laidMetH Tryd.prog L W) (hp : (L.all fun x => x.2.handleName?.isNone) = true)
    (hf : L.filter (fun x => x.1 == "catchpit/octet.ends") = [("catchpit/octet.ends", Go.Proofs.YtdkecmjoenfjdaaDoor.Rows.laid_catchpit_octet_ends)]) (hs : W.ShapedOpen Tryd.prog) : TabOk W := by
  rw [MakeChecks.laidMetH_plain _ _ _ hp] at h
  have h2 := laidMet.filter (fun x => x.1 == "catchpit/octet.ends") h
  rw [hf] at h2
  obtain ⟨ps, ⟨g, t, cs, fuel, p, q, hg, ht, hv, hd, _, _⟩, _, _⟩ := h2
  obtain rfl := Option.some.inj ((show Tryd.prog.globalNamed "catchpit/octet.ends" = some 0 by kernel_rfl).symm.trans hg)
  obtain rfl := Option.some.inj ((show (Tryd.prog.globals[0]?).map (·.type) = some 92 by kernel_rfl).symm.trans ht)
  have e := cells_of_pairs hd rfl
  have hc := World.var?_cell hg hv
  have at_ : ∀ j, cs[j]? = cs.toList[j]? := fun j => (Array.getElem?_toList ..).symm
  rw [e] at at_
  exact ⟨(hc 0).trans (at_ 0), (hc 1).trans (at_ 1), (hc 2).trans (at_ 2), (hc 3).trans (at_ 3), (hc 4).trans (at_ 4), (hc 5).trans (at_ 5), MxOk.of_shaped hs⟩
end Go.Proofs.YtdkecmjoenfjdaaDoorH
end
section
namespace Go.Proofs.YtdkecmjoenfjdaaDoorH
open Go.RowKit Go.ChangeShapes Go.WideShapes Go.ChangeAt Go.Proofs.YtdkecmjoenfjdaaDoorW.PrintWords
def Light {H : Type} (P : Program) (t : TypeId) (d : DataW H) : Prop := ∀ x ∈ DataW.weights P t d, x ≤ reachBytes
structure Opens (P : Program) {α : Type} (d : Kd α) (t : TypeId) (G : α → Prop) : Prop where
  cells : P.cellsOf t = d.sz
  open_ : ∀ {H : Type} {enc : TypeId × Value → H} {W : World} {fuel : Nat} {cs : List Value} {x : DataW H × List MemPlace},
    DataW.trod enc P W 0 (fun _ => true) true fuel t cs = some x → Light P t x.1 → ∃ y, d.K W y cs ∧ G y
theorem Opens.int {P : Program} {t : TypeId} {k : IntKind} (hu : P.underlying t = some (.int k)) (hc : P.cellsOf t = 1) : Opens P (Kd.int k) t (fun n => (Lit.int k n).wf = true) := by
  refine ⟨hc, fun h _ => ?_⟩
  obtain ⟨n, e1, e2, wf⟩ := DataW.trod_int hu h
  exact ⟨n, e1, wf⟩
theorem Opens.bool {P : Program} {t : TypeId} (hu : P.underlying t = some .bool) (hc : P.cellsOf t = 1) : Opens P Kd.bool t (fun _ => True) := by
  refine ⟨hc, fun {_ _ _ fuel cs _} h _ => ?_⟩
  cases fuel with
  | zero => simp [DataW.trod] at h
  | succ m =>
    unfold DataW.trod at h
    rw [hu] at h
    match cs, h with
    | [.bool b], _ => exact ⟨b, rfl, trivial⟩
theorem Opens.string {P : Program} {t : TypeId} (hu : P.underlying t = some .string) (hc : P.cellsOf t = 1) : Opens P Kd.string t (fun s => s.size ≤ 140737488351232) := by
  refine ⟨hc, fun h hl => ?_⟩
  obtain ⟨s, e1, e2, _⟩ := DataW.trod_string hu h
  refine ⟨s, e1, ?_⟩
  subst e2
  have := hl s.data.toList.length (by simp [DataW.weights])
  rw [data_length] at this
  exact this
theorem weightsAll_mem {H : Type} (P : Program) (e : TypeId) : ∀ (l : List (DataW H)) (d : DataW H), d ∈ l → ∀ x ∈ DataW.weights P e d, x ∈ DataW.weightsAll P e l
  | [], d, h, _, _ => by cases h
  | a :: l, d, h, x, hx => by
    rw [DataW.weightsAll]
    rcases List.mem_cons.1 h with rfl | h
    · exact List.mem_append_left _ hx
    · exact List.mem_append_right _ (weightsAll_mem P e l d h x hx)
theorem list_of {α : Type} {p : Nat → α → Prop} : ∀ n : Nat, (∀ i, i < n → ∃ y, p i y) → ∃ l : List α, l.length = n ∧ ∀ i y, l[i]? = some y → p i y
  | 0, _ => ⟨[], rfl, fun i y h => by simp at h⟩
  | n + 1, h => by
    obtain ⟨l, hl, hp⟩ := list_of n (fun i hi => h i (by omega))
    obtain ⟨y, hy⟩ := h n (by omega)
    refine ⟨l ++ [y], by simp [hl], fun i z hz => ?_⟩
    rcases Nat.lt_or_ge i n with hi | hi
    · rw [List.getElem?_append_left (by omega)] at hz
      exact hp i z hz
    · rw [List.getElem?_append_right (by omega), hl] at hz
      rcases Nat.eq_zero_or_pos (i - n) with h0 | h0
      · rw [h0] at hz
        obtain rfl : i = n := by omega
        obtain rfl : y = z := by simpa using hz
        exact hy
      · rw [List.getElem?_eq_none (by simp; omega)] at hz
        cases hz
theorem add_add (a : Addr) (i j : Nat) : (a.add i).add j = a.add (i + j) := by
  unfold Addr.add
  by_cases h1 : i = 0
  · subst h1; simp
  · by_cases h2 : j = 0
    · subst h2; simp [h1]
    · simp [h1, h2, Nat.add_assoc]
theorem cells_at {W : World} {base : Nat} {a : Addr} {n : Nat} {cs : List Value} (h : W.cells? base a n = some cs) : cs.length = n ∧ ∀ (i : Nat) u, cs[i]? = some u → W.cell? (a.add i) = some u := by
  obtain ⟨_, hn, hc⟩ := World.cells?_some h
  refine ⟨hn, fun i u hu => ?_⟩
  have hi : i < n := by
    rcases Nat.lt_or_ge i n with hi | hi
    · exact hi
    · rw [List.getElem?_eq_none (by omega)] at hu; cases hu
  rw [hc i hi, hu]
theorem Opens.slice {P : Program} {α : Type} {d : Kd α} {t e : TypeId} {G : α → Prop} (h : Opens P d e G) (hu : P.underlying t = some (.slice e)) (hc : P.cellsOf t = 1) {B : Nat} (hB : P.bytesOf e = B) :
    Opens P (Kd.slice e d) t (fun l => l.length * B ≤ 140737488351232 ∧ ∀ y ∈ l, G y) := by
  refine ⟨hc, fun {H enc W fuel cs x} hx hl => ?_⟩
  rcases Deep.open_slice hu hx with ⟨rfl, rfl⟩ | ⟨a, len, cap, m, n, D, Pl, rfl, _, hle, hm, hmm, rfl, hel⟩
  · exact ⟨[], ⟨none, 0, rfl, Nat.le_refl _, rfl, by simp, fun h => by simp at h⟩, by simp, fun y hy => by cases hy⟩
  · simp only [if_true] at hmm
    subst hmm
    have hw : (len + (m - len)) * B ≤ 140737488351232 := by
      have := hl ((len + (m - len)) * B) (by
        unfold DataW.weights
        simp only [hu, hB]
        simp)
      exact this
    have hget : ∀ i, i < len → ∃ y, (∃ c, c.length = d.sz ∧ d.K W y c ∧ ∀ j u, c[j]? = some u → W.cell? (a.add (i * d.sz + j)) = some u) ∧ G y := by
      intro i hi
      obtain ⟨cs', h1, h2⟩ := hel i (by omega)
      obtain ⟨y, hy, hg⟩ := h.open_ h2 (fun x hx => hl x (by
        unfold DataW.weights
        simp only [hu]
        refine List.mem_cons_of_mem _ (List.mem_append_left _ (weightsAll_mem P e _ (D i) ?_ x hx))
        exact List.mem_map.2 ⟨i, List.mem_range.2 hi, rfl⟩))
      obtain ⟨hn, hcell⟩ := cells_at h1
      refine ⟨y, ⟨cs', by rw [hn, h.cells], hy, fun j u hj => ?_⟩, hg⟩
      have := hcell j u hj
      rw [add_add, h.cells] at this
      exact this
    obtain ⟨l, hll, hat⟩ := list_of len hget
    refine ⟨l, ⟨some a, m, by rw [hll], by omega, rfl, by rw [hll]; unfold maxLen at hm; omega, fun _ => ⟨a, rfl, fun j p hj => (hat j p hj).1⟩⟩, ?_, fun y hy => ?_⟩
    · rw [hll]
      exact Nat.le_trans (Nat.mul_le_mul_right _ (by omega)) hw
    · obtain ⟨i, hi, rfl⟩ := List.mem_iff_getElem.1 hy
      exact (hat i _ (List.getElem?_eq_getElem hi)).2
theorem Opens.iso {P : Program} {α β : Type} {d : Kd α} {t : TypeId} {G : α → Prop} (h : Opens P d t G) (f : β → α) (g : α → β) (hfg : ∀ y, f (g y) = y) : Opens P (Kd.iso d f) t (fun x => G (f x)) := by
  refine ⟨h.cells, fun {H enc W fuel cs x} hx hl => ?_⟩
  obtain ⟨y, hk, hg⟩ := h.open_ hx hl
  exact ⟨g y, show d.K W (f (g y)) cs by rw [hfg]; exact hk, by rw [hfg]; exact hg⟩
end Go.Proofs.YtdkecmjoenfjdaaDoorH
end
section
namespace Go.Proofs.YtdkecmjoenfjdaaDoorH
open Go
variable {H : Type} {enc : TypeId × Value → H}
theorem returns_and_shaped {a : Assume} {C : Checked} {os : Os} {f : FuncId} {fn : Func} {s : ChangeSpec} {conds : List PathCond} {apart fresh handsOn again : Bool} {X : World → Array Value → Prop}
    (hX : ∀ (w w' : World) (args : Array Value), w.heap = w'.heap → X w args → X w' args)
    (own : ownKnob C.prog.godebug = none) (started : os.Started) (noInit : C.prog.inits.idxOf? f = none) (hfn : C.prog.funcs[f]? = some fn)
    (witness : ∃ (w : World) (tape : Tape) (i : Input), w.os = os ∧ (w.forCall tape i).Shaped C.prog ∧ i.vars = [] ∧ Input.okWide C.prog (w.forCall tape i) .any w.heap.size f i ∧
      ((s.pre enc C.prog fn conds apart (w.forCall tape i).memory i.args ∧ X (w.forCall tape i).memory i.args) ∧ sizedMet enc C.prog fn (OpenSpec.ofChange s) apart (w.forCall tape i).memory i.args) ∧ a.holds C.prog (lone (Frame.enter C.prog f i.args .normal) [] (w.forCall tape i)))
    (contract : ∀ (W : World) (base : Nat) (args : Array Value) (ds gs : List (DataW H)) (before : List MemPlace),
      (∀ (j : Nat) t v, fn.params[j]? = some t → args[j]? = some v → Value.okWide C.prog W .any base t v) →
      DataW.Whole enc C.prog fn.params.toList s.vars apart W args.toList ds gs before →
      conds.all (PathCond.test C.prog ⟨fn.params.toList, ds, s.plain.varTypes C.prog, gs⟩) = true →
      (DataW.weightsEach C.prog (fn.params.toList ++ s.plain.varTypes C.prog) (ds ++ gs)).all (· ≤ reachBytes) = true → X W args →
      W.ShapedOpen C.prog →
      a.holds C.prog (lone (Frame.enter C.prog f args .normal) [] W) →
      Calls C.prog f args W fun e W' => ∃ v, e = .returned v ∧ s.post enc C.prog fn apart fresh handsOn again W args v W') :
    ReturnsInHanded a C os f .any (fun w args => (s.pre enc C.prog fn conds apart w args ∧ X w args) ∧ sizedMet enc C.prog fn (OpenSpec.ofChange s) apart w args) (s.post enc C.prog fn apart fresh handsOn again) := by
  refine returnsInHanded_of_calls own started noInit witness ?_
  intro w tape i _ hsh _ hok hpre hholds
  obtain ⟨_, _, _, fn', hfn', _, _, _, _, hval⟩ := hok
  have e : fn' = fn := Option.some.inj (hfn'.symm.trans hfn)
  subst e
  obtain ⟨⟨⟨ds, gs, before, hw, hc⟩, hx⟩, hz⟩ := hpre
  have hw' := DataW.Whole.of_heap (w' := w.forCall tape i) (by rfl) hw
  refine (contract (w.forCall tape i) w.heap.size i.args ds gs before hval hw' hc (hz.weights hw) (hX _ _ _ (by rfl) hx) hsh hholds).mono fun e W' ⟨v, he, hp⟩ => ?_
  subst he
  exact ChangeSpec.post_blind hp
end Go.Proofs.YtdkecmjoenfjdaaDoorH
end
