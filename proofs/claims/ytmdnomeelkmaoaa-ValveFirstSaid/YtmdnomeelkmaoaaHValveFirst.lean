/- Whatever a valve is set to, one number behind the other (up to fifty; longer lists are let by), the first outcome stays, and how often it was set is told. -/
import Derived.Test.YtmdnomeelkmaoaaHValveWakes
namespace Go.Proofs.YtmdnomeelkmaoaaV
open Go.RowKit Go.Proofs.YtmdnomeelkmaoaaW.PrintWords Go.Proofs.YtmdnomeelkmaoaaW.PrintLast Go.Proofs.YtmdnomeelkmaoaaW.PrintMore

set_option maxHeartbeats 1600000 in
set_option maxRecDepth 100000 in
theorem tries_calls (b r : Nat) (at_ tr : Int) (w : World) (h : Val w b r at_ tr) :
    Calls Try.prog 9 #[.pointer (some ⟨b, 0, none⟩)] w fun e w' => e = .returned (.int .i64 tr) ∧ w' = w := by
  have hl := run_call_load (P := Try.prog) Try.func21 (by kernel_rfl) (by kernel_rfl) (by kernel_rfl) .i64 (by kernel_rfl) (IsV.c1 h)
  clear h
  go_enter Try.func9, Try.ntmps9
  go_wp2
  go_ret
  exact ⟨rfl, rfl⟩

set_option maxHeartbeats 1600000 in
set_option maxRecDepth 100000 in
theorem ref_calls (at_ x : Int) (w : World) :
    Calls Try.prog 6 #[.int .i64 at_, .int .i64 x] w fun e w' => e = .returned (.tuple #[.int .i64 (setAt at_ x), .bool (setFirst at_ x)]) ∧ w' = w := by
  by_cases h1 : x < 1
  · have e1 : setFirst at_ x = false := by unfold setFirst; rw [decide_eq_false_iff_not]; omega
    have e2 : setAt at_ x = at_ := by unfold setAt; rw [if_neg (by omega)]
    rw [e1, e2]
    clear e1 e2
    go_enter Try.func6, Try.ntmps6
    go_wp2
    go_ret2
    exact ⟨rfl, rfl⟩
  · by_cases h7 : 7 < x
    · have e1 : setFirst at_ x = false := by unfold setFirst; rw [decide_eq_false_iff_not]; omega
      have e2 : setAt at_ x = at_ := by unfold setAt; rw [if_neg (by omega)]
      rw [e1, e2]
      clear e1 e2
      go_enter Try.func6, Try.ntmps6
      go_wp2
      go_ret2
      exact ⟨rfl, rfl⟩
    · by_cases h0 : at_ = 0
      · subst h0
        have e1 : setFirst 0 x = true := by unfold setFirst; rw [decide_eq_true_iff]; omega
        have e2 : setAt 0 x = x := by unfold setAt; rw [if_pos (by omega)]
        rw [e1, e2]
        clear e1 e2
        go_enter Try.func6, Try.ntmps6
        go_wp2
        go_ret2
        exact ⟨rfl, rfl⟩
      · have e1 : setFirst at_ x = false := by unfold setFirst; rw [decide_eq_false_iff_not]; omega
        have e2 : setAt at_ x = at_ := by unfold setAt; rw [if_neg (by omega)]
        have h0' : (at_ != 0) = true := by rw [bne_iff_ne]; exact h0
        rw [e1, e2]
        clear e1 e2 h0
        go_enter Try.func6, Try.ntmps6
        go_wp2
        go_ret2
        exact ⟨rfl, rfl⟩

/-- How often a valve was set behind a list. -/
def sets : List Int → Int → Int
  | [], n => n
  | x :: l, n => sets l (setTr n x)
/-- Where it is then. -/
def goes : List Int → Int → Int
  | [], a => a
  | x :: l, a => goes l (setAt a x)
theorem sets_snoc (l : List Int) (x n : Int) : sets (l ++ [x]) n = setTr (sets l n) x := by
  induction l generalizing n with
  | nil => rfl
  | cons y l ih => exact ih _
theorem goes_snoc (l : List Int) (x a : Int) : goes (l ++ [x]) a = setAt (goes l a) x := by
  induction l generalizing a with
  | nil => rfl
  | cons y l ih => exact ih _
theorem setAt_range (a x : Int) (h : 0 ≤ a ∧ a ≤ 7) : 0 ≤ setAt a x ∧ setAt a x ≤ 7 := by
  unfold setAt
  split <;> omega
theorem goes_range (l : List Int) : ∀ a, 0 ≤ a ∧ a ≤ 7 → 0 ≤ goes l a ∧ goes l a ≤ 7 := by
  induction l with
  | nil => exact fun a h => h
  | cons x l ih => exact fun a h => ih _ (setAt_range a x h)
theorem setTr_range (n x : Int) (B : Int) (hB : B ≤ 1000) (h : 0 ≤ n ∧ n ≤ B) : 0 ≤ setTr n x ∧ setTr n x ≤ B + 1 := by
  unfold setTr wrap64
  split <;> omega
theorem sets_range (l : List Int) : ∀ (n B : Int), B + l.length ≤ 1000 → 0 ≤ n ∧ n ≤ B → 0 ≤ sets l n ∧ sets l n ≤ B + l.length := by
  induction l with
  | nil => intro n B _ h; simpa [sets] using h
  | cons x l ih =>
    intro n B hB h
    have h1 := setTr_range n x B (by simp at hB; omega) h
    have h2 := ih (setTr n x) (B + 1) (by simp at hB; omega) h1
    simp only [sets, List.length_cons]
    omega

theorem take_at (l : List Int) (k : Nat) (h : k < l.length) : l.take (k + 1) = l.take k ++ [rd l k] := by
  rw [List.take_succ_eq_append_getElem h]
  simp [rd, List.getD_eq_getElem?_getD, h]

set_option maxHeartbeats 1600000 in
set_option maxRecDepth 100000 in
/-- The law's walk: whatever the list. -/
theorem first_calls (a0 : Option Addr) (l : List Int) (cap0 : Nat) (w : World) (hr : ReadsInt w .i64 a0 l.length l) (hw : ∀ n ∈ l, (Lit.int .i64 n).wf = true) :
    Calls Try.prog 3 #[.slice a0 l.length cap0] w fun e w' => e = .returned (.bool true) ∧ Below w.heap.size w w' := by
  have HR := Aside0.mk hr
  have HWF := Aside0.mk hw
  have hmax : l.length ≤ 9223372036854775807 := hr.2.1
  clear hr hw
  go_enter Try.func3, Try.ntmps3
  go_wp2_with fail
  refine (wakes_calls w).mono ?_
  rintro e w1 ⟨rfl, b1⟩
  have B1 := Aside0.mk b1
  clear b1
  by_cases h50 : 50 < l.length
  · have h50' : (50 : Int) < (l.length : Int) := by omega
    go_wp2
    go_ret
    exact ⟨rfl, B1.out⟩
  · have h50' : decide ((50 : Int) < (l.length : Int)) = false := by simp; omega
    have HL := Aside0.mk (show l.length ≤ 50 by omega)
    clear h50
    go_wp2_with fail
    refine (new_calls w1).mono ?_
    rintro e w2 ⟨rfl, v2, b2⟩
    have V2 := Aside0.mk (show Val w2 (w1.heap.size + 1) w1.heap.size 0 0 from v2)
    have B2 := Aside0.mk (B1.out.trans (b2.mono B1.out.size))
    have HS := Aside0.mk B1.out.size
    clear v2 b2
    generalize w1.heap.size = r at *
    go_wp2_with fail
    go_loopw [4, 5, 20] (fun u4 u5 u20 wr => ∃ k : Nat, k ≤ l.length ∧ u20 = .int .i64 k ∧ u4 = .int .i64 (goes (l.take k) 0) ∧ u5 = .int .i64 (sets (l.take k) 0) ∧ Aside0 (Val wr (r + 1) r (goes (l.take k) 0) (sets (l.take k) 0)) ∧ Aside0 (Below w.heap.size w wr)) (fun _ _ u20 _ => l.length - (intOf u20).toNat)
    case atStart => exact ⟨0, Nat.zero_le _, rfl, rfl, rfl, V2, B2⟩
    case round =>
      obtain ⟨k, hk, rfl, rfl, rfl, hv, hb⟩ := hrel
      by_cases hlt : k < l.length
      · obtain ⟨ad, rfl, hcell⟩ := (HR.out.below hb.out).at_ k (by omega) (by omega)
        have HT := Aside0.mk (take_at l k hlt)
        have hxw : (Lit.int .i64 (rd l k)).wf = true := HWF.out _ (by
          simp only [rd, Int.toNat_natCast, List.getD_eq_getElem?_getD, List.getElem?_eq_getElem hlt, Option.getD_some]
          exact List.getElem_mem hlt)
        have ha := goes_range (l.take k) 0 (by omega)
        have hn := sets_range (l.take k) 0 0 (by have := List.length_take_le k l; have := HL.out; omega) (by omega)
        have hlen : (l.take k).length ≤ 50 := by have := List.length_take_le k l; have := HL.out; omega
        generalize hG : goes (l.take k) 0 = a at *
        generalize hN : sets (l.take k) 0 = n at *
        generalize hX : rd l k = x at *
        have HG := Aside0.mk hG
        have HN := Aside0.mk hN
        have HXW := Aside0.mk hxw
        clear hG hN hxw hX
        rw [Int.toNat_natCast] at hcell
        go_wp2_with fail
        refine (ref_calls a x wr).mono ?_
        rintro e w3 ⟨rfl, rfl⟩
        have hset : setAt (goes (l.take k) 0) x = goes (l.take (k + 1)) 0 := by rw [HT.out, goes_snoc]
        have hstr : setTr (sets (l.take k) 0) x = sets (l.take (k + 1)) 0 := by rw [HT.out, sets_snoc]
        rw [HG.out] at hset
        rw [HN.out] at hstr
        have HSET := Aside0.mk hset
        have HSTR := Aside0.mk hstr
        have ha2 := setAt_range a x ha
        clear hset hstr
        by_cases hx : 1 ≤ x ∧ x ≤ 7
        · obtain ⟨hx1, hx7⟩ := hx
          have HN1 := Aside0.mk (setTr_one n x ⟨hx1, hx7⟩ (by omega))
          have hn2 : 0 ≤ n + 1 ∧ n + 1 ≤ 51 := by omega
          go_wp2_with fail
          refine (set_calls (r + 1) r a n x w _ HXW.out hv.out hb.out (by have := HS.out; omega) HS.out).mono ?_
          rintro e w4 ⟨rfl, v4, b4⟩
          have V4 := Aside0.mk v4
          have B4 := Aside0.mk b4
          clear v4 b4
          have hne : (setFirst a x != setFirst a x) = false := by simp
          go_wp2_with fail
          refine (get_calls (r + 1) r (setAt a x) (setTr n x) _ V4.out ha2.1 ha2.2).mono ?_
          rintro e w5 ⟨rfl, rfl⟩
          have hne2 : (setAt a x != setAt a x) = false := by simp
          go_wp2_with fail
          refine (tries_calls (r + 1) r (setAt a x) (setTr n x) _ V4.out).mono ?_
          rintro e w5 ⟨rfl, rfl⟩
          rw [HN1.out]
          have hne3 : (n + 1 != n + 1) = false := by simp
          go_wp2
          go_roundw
          case rel => exact ⟨k + 1, by omega, by go_num, by rw [← HSET.out], by rw [← HSTR.out, HN1.out], ⟨by rw [← HSET.out, ← HSTR.out]; exact V4.out⟩, B4⟩
          case measure => simp [intOf]; omega
        · have HN1 := Aside0.mk (show setTr n x = n by unfold setTr; rw [if_neg hx])
          by_cases hx1 : x < 1
          · clear hx
            go_wp2_with fail
            refine (set_calls (r + 1) r a n x w _ HXW.out hv.out hb.out (by have := HS.out; omega) HS.out).mono ?_
            rintro e w4 ⟨rfl, v4, b4⟩
            have V4 := Aside0.mk v4
            have B4 := Aside0.mk b4
            clear v4 b4
            have hne : (setFirst a x != setFirst a x) = false := by simp
            go_wp2_with fail
            refine (get_calls (r + 1) r (setAt a x) (setTr n x) _ V4.out ha2.1 ha2.2).mono ?_
            rintro e w5 ⟨rfl, rfl⟩
            have hne2 : (setAt a x != setAt a x) = false := by simp
            go_wp2_with fail
            refine (tries_calls (r + 1) r (setAt a x) (setTr n x) _ V4.out).mono ?_
            rintro e w5 ⟨rfl, rfl⟩
            rw [HN1.out]
            have hne3 : (n != n) = false := by simp
            go_wp2
            go_roundw
            case rel => exact ⟨k + 1, by omega, by go_num, by rw [← HSET.out], by rw [← HSTR.out, HN1.out], ⟨by rw [← HSET.out, ← HSTR.out]; exact V4.out⟩, B4⟩
            case measure => simp [intOf]; omega
          · have hx7 : 7 < x := by omega
            have hx1' : 1 ≤ x := by omega
            clear hx hx1
            go_wp2_with fail
            refine (set_calls (r + 1) r a n x w _ HXW.out hv.out hb.out (by have := HS.out; omega) HS.out).mono ?_
            rintro e w4 ⟨rfl, v4, b4⟩
            have V4 := Aside0.mk v4
            have B4 := Aside0.mk b4
            clear v4 b4
            have hne : (setFirst a x != setFirst a x) = false := by simp
            go_wp2_with fail
            refine (get_calls (r + 1) r (setAt a x) (setTr n x) _ V4.out ha2.1 ha2.2).mono ?_
            rintro e w5 ⟨rfl, rfl⟩
            have hne2 : (setAt a x != setAt a x) = false := by simp
            go_wp2_with fail
            refine (tries_calls (r + 1) r (setAt a x) (setTr n x) _ V4.out).mono ?_
            rintro e w5 ⟨rfl, rfl⟩
            rw [HN1.out]
            have hne3 : (n != n) = false := by simp
            go_wp2
            go_roundw
            case rel => exact ⟨k + 1, by omega, by go_num, by rw [← HSET.out], by rw [← HSTR.out, HN1.out], ⟨by rw [← HSET.out, ← HSTR.out]; exact V4.out⟩, B4⟩
            case measure => simp [intOf]; omega
      · go_wp2
        go_ret
        exact ⟨rfl, hb.out⟩

/-- The law's walk, as the row asks it. -/
theorem first_walk (a0 : Option Addr) (len0 cap0 : Nat) (z0 : List Int) (w : World)
    (w0 : (a0 = none ∧ len0 = 0 ∧ cap0 = 0 ∧ z0 = []) ∨ ∃ x, a0 = some x ∧ len0 ≤ cap0 ∧ cap0 ≤ maxLen ∧ z0.length = cap0 ∧ (∀ i, i < z0.length → w.cell? (x.add i) = some (.int .i64 (z0.getD i 0))) ∧ ∀ n ∈ z0, (Lit.int .i64 n).wf = true) :
    Calls Try.prog 3 #[.slice a0 len0 cap0] w fun e w' => e = .returned (.bool true) ∧ Below w.heap.size w w' := by
  obtain ⟨l, rfl, hr, hm, hw, hc⟩ := ReadsInt.ofRowC w0
  exact first_calls a0 l cap0 w hr hw
end Go.Proofs.YtmdnomeelkmaoaaV
