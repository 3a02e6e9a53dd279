import Derived.Test.YtmmbpbgcobmifaaGreatDoorZOutletWholesP6
import Derived.Test.YtmmbpbgcobmifaaGreatDoorZOutletWholesP1
import Derived.Test.YtmmbpbgcobmifaaGreatDoorZOutletWholesP5
import Derived.RangeFuncNested
import Derived.RangeFuncBound
import Derived.RangeFuncCalls
import Derived.RangeFuncLeaves
import Derived.RangeFuncKeeps
import Derived.Shelf.RegionOpen
import Derived.WalkKit
import Derived.OwnWalkIn
import Derived.TacticsInMore
import Derived.LoopNIn
import Derived.LoopIn
import Derived.Lib.BytesEntry
import Derived.Lib.Walk
import Derived.RangeFuncFrom
import Derived.RangeFuncWrites
import Derived.RangeFuncBox
namespace Go.Proofs.YtmmbpbgcobmifaaGreatDoorW.PrintWords
end Go.Proofs.YtmmbpbgcobmifaaGreatDoorW.PrintWords
namespace Go.Proofs.YtmmbpbgcobmifaaGreatDoorW.PrintLast
end Go.Proofs.YtmmbpbgcobmifaaGreatDoorW.PrintLast
namespace Go.Proofs.YtmmbpbgcobmifaaGreatDoorW.PrintMore
end Go.Proofs.YtmmbpbgcobmifaaGreatDoorW.PrintMore
namespace Go.Proofs.YtmmbpbgcobmifaaGreatDoor.Pr
end Go.Proofs.YtmmbpbgcobmifaaGreatDoor.Pr
namespace Go.Proofs.YtmmbpbgcobmifaaGreatDoorM
end Go.Proofs.YtmmbpbgcobmifaaGreatDoorM
section
namespace Go.Proofs.YtmmbpbgcobmifaaGreatDoorM
structure MEnv (β : Type) where
  dg : Int → Int
  tx : Int → Bool
  tk : Int → Bool
  pf : List Int → β
  e0 : Nat
  e1 : Nat
  e2 : Nat
structure MSt (β : Type) where
  place : Nat
  n : Nat
  count : Nat
  lines : Nat
  size : Nat
  text : List Int
  data : List Int
  fields : List β
section
variable {β : Type} (E : MEnv β)
def mline (s : MSt β) (c : Int) : Except Int (MSt β) :=
  if E.e2 ≤ s.size then .error 5
  else if c = 10 ∧ s.place = 9 then .ok { s with size := s.size + 1, fields := s.fields ++ [E.pf s.text.dropLast], text := [], place := 6 }
  else .ok { s with size := s.size + 1, text := s.text ++ [c] }
def mstep (s : MSt β) (c : Int) : Except Int (MSt β) :=
  match s.place with
  | 0 => if 0 ≤ E.dg c then (if s.count = 16 ∨ (4611686018427387903 - (E.dg c).toNat) / 16 < s.n then .error 3 else .ok { s with n := 16 * s.n + (E.dg c).toNat, count := s.count + 1 })
    else if s.count = 0 ∨ (c ≠ 59 ∧ c ≠ 13) then .error 2
    else if c = 13 then .ok { s with place := 2 }
    else if E.e0 < 1 then .error 5
    else .ok { s with place := 1, count := 1 }
  | 1 => if c = 13 then .ok { s with place := 2 } else if E.tx c = false then .error 2 else if E.e0 ≤ s.count then .error 5 else .ok { s with count := s.count + 1 }
  | 2 => if c ≠ 10 then .error 2 else if 0 < s.n then .ok { s with place := 3 } else .ok { s with place := 6 }
  | 3 => if s.n - 1 = 0 then .ok { s with data := s.data ++ [c], n := s.n - 1, place := 4 } else .ok { s with data := s.data ++ [c], n := s.n - 1 }
  | 4 => if c ≠ 13 then .error 2 else .ok { s with place := 5 }
  | 5 => if c ≠ 10 then .error 2 else .ok { s with place := 0, count := 0 }
  | 6 => if c = 13 then .ok { s with place := 10 } else if E.tk c = false then .error 2 else if E.e1 ≤ s.lines then .error 5 else mline E { s with lines := s.lines + 1, place := 7 } c
  | 7 => if c = 58 then mline E { s with place := 8 } c else if E.tk c = false then .error 2 else mline E s c
  | 8 => if c = 13 then mline E { s with place := 9 } c else if E.tx c = false then .error 2 else mline E s c
  | 9 => if c ≠ 10 then .error 2 else mline E s c
  | 10 => if c ≠ 10 then .error 2 else .ok { s with place := 11 }
  | _ => .ok s
def mrun : MSt β → List Int → Nat → MSt β × Nat × Int
  | s, [], i => (s, i, 4)
  | s, c :: r, i => match mstep E s c with
    | .error e => (s, i, e)
    | .ok x => if x.place = 11 then (x, i + 1, 0) else mrun x r (i + 1)
def minit : MSt β := ⟨0, 0, 0, 0, 0, [], [], []⟩
variable {E}
theorem step0 {s : MSt β} {c : Int} (h : s.place = 0) : mstep E s c = (if 0 ≤ E.dg c then (if s.count = 16 ∨ (4611686018427387903 - (E.dg c).toNat) / 16 < s.n then .error 3 else .ok { s with n := 16 * s.n + (E.dg c).toNat, count := s.count + 1 })
    else if s.count = 0 ∨ (c ≠ 59 ∧ c ≠ 13) then .error 2
    else if c = 13 then .ok { s with place := 2 }
    else if E.e0 < 1 then .error 5
    else .ok { s with place := 1, count := 1 }) := by
  cases s; cases h; rfl
theorem step1 {s : MSt β} {c : Int} (h : s.place = 1) : mstep E s c = (if c = 13 then .ok { s with place := 2 } else if E.tx c = false then .error 2 else if E.e0 ≤ s.count then .error 5 else .ok { s with count := s.count + 1 }) := by
  cases s; cases h; rfl
theorem step2 {s : MSt β} {c : Int} (h : s.place = 2) : mstep E s c = (if c ≠ 10 then .error 2 else if 0 < s.n then .ok { s with place := 3 } else .ok { s with place := 6 }) := by
  cases s; cases h; rfl
theorem step3 {s : MSt β} {c : Int} (h : s.place = 3) : mstep E s c = (if s.n - 1 = 0 then .ok { s with data := s.data ++ [c], n := s.n - 1, place := 4 } else .ok { s with data := s.data ++ [c], n := s.n - 1 }) := by
  cases s; cases h; rfl
theorem step4 {s : MSt β} {c : Int} (h : s.place = 4) : mstep E s c = (if c ≠ 13 then .error 2 else .ok { s with place := 5 }) := by
  cases s; cases h; rfl
theorem step5 {s : MSt β} {c : Int} (h : s.place = 5) : mstep E s c = (if c ≠ 10 then .error 2 else .ok { s with place := 0, count := 0 }) := by
  cases s; cases h; rfl
theorem step6 {s : MSt β} {c : Int} (h : s.place = 6) : mstep E s c = (if c = 13 then .ok { s with place := 10 } else if E.tk c = false then .error 2 else if E.e1 ≤ s.lines then .error 5 else mline E { s with lines := s.lines + 1, place := 7 } c) := by
  cases s; cases h; rfl
theorem step7 {s : MSt β} {c : Int} (h : s.place = 7) : mstep E s c = (if c = 58 then mline E { s with place := 8 } c else if E.tk c = false then .error 2 else mline E s c) := by
  cases s; cases h; rfl
theorem step8 {s : MSt β} {c : Int} (h : s.place = 8) : mstep E s c = (if c = 13 then mline E { s with place := 9 } c else if E.tx c = false then .error 2 else mline E s c) := by
  cases s; cases h; rfl
theorem step9 {s : MSt β} {c : Int} (h : s.place = 9) : mstep E s c = (if c ≠ 10 then .error 2 else mline E s c) := by
  cases s; cases h; rfl
theorem step10 {s : MSt β} {c : Int} (h : s.place = 10) : mstep E s c = (if c ≠ 10 then .error 2 else .ok { s with place := 11 }) := by
  cases s; cases h; rfl
theorem run_err {s : MSt β} {c : Int} {r : List Int} {i : Nat} {e : Int} (h : mstep E s c = .error e) : mrun E s (c :: r) i = (s, i, e) := by rw [mrun, h]
theorem run_on {s x : MSt β} {c : Int} {r : List Int} {i : Nat} (h : mstep E s c = .ok x) (hp : x.place ≠ 11) : mrun E s (c :: r) i = mrun E x r (i + 1) := by
  rw [mrun, h]; exact if_neg hp
theorem run_fin {s x : MSt β} {c : Int} {r : List Int} {i : Nat} (h : mstep E s c = .ok x) (hp : x.place = 11) : mrun E s (c :: r) i = (x, i + 1, 0) := by
  rw [mrun, h]; exact if_pos hp
theorem run_data : ∀ (m : Nat) (r : List Int) (i : Nat) (s : MSt β), s.place = 3 → s.n = m + 1 →
    mrun E s r i = if m + 1 ≤ r.length then mrun E { s with place := 4, n := 0, data := s.data ++ r.take (m + 1) } (r.drop (m + 1)) (i + (m + 1)) else ({ s with n := s.n - r.length, data := s.data ++ r }, i + r.length, 4)
  | m, [], i, s, hp, hn => by
    rw [if_neg (by simp), mrun]
    simp
  | 0, c :: r, i, s, hp, hn => by
    have hst : mstep E s c = .ok { s with data := s.data ++ [c], n := s.n - 1, place := 4 } := by
      rw [step3 hp, if_pos (by omega)]
    rw [run_on hst (by simp), if_pos (by simp), show s.n - 1 = 0 by omega]
    rfl
  | m + 1, c :: r, i, s, hp, hn => by
    have hst : mstep E s c = .ok { s with data := s.data ++ [c], n := s.n - 1 } := by
      rw [step3 hp, if_neg (by omega)]
    rw [run_on hst (by show s.place ≠ 11; omega), run_data m r (i + 1) { s with data := s.data ++ [c], n := s.n - 1 } hp (by show s.n - 1 = m + 1; omega)]
    by_cases h : m + 1 ≤ r.length
    · rw [if_pos h, if_pos (by simp; omega)]
      simp only [List.take_succ_cons, List.drop_succ_cons, List.append_assoc, List.singleton_append]
      congr 1
      omega
    · rw [if_neg h, if_neg (by simp; omega)]
      simp only [List.length_cons, List.append_assoc, List.singleton_append, Prod.mk.injEq, and_true]
      constructor
      · congr 1
        omega
      · omega
end
section
variable {β : Type} {E E' : MEnv β}
end
def scanI (nx : Int → Int → Int × Bool) : Nat → List Int → Int → Nat × Int
  | i, [], _ => (i, 4)
  | i, c :: l, st => if (nx st c).2 = true then (if (nx st c).1 = 5 then (i + 1, 0) else scanI nx (i + 1) l (nx st c).1) else (i, 2)
def lfLine : List Int → List Int × List Int
  | [] => ([], [])
  | c :: r => if c = 10 then ([10], r) else (c :: (lfLine r).1, (lfLine r).2)
def beyM (e1 e2 : Nat) : Nat → List Int → Nat → Nat → Int
  | 0, _, _, _ => -1
  | f + 1, r, z, k => if r = [] then -1 else if (lfLine r).1.getD 0 0 = 13 then -1 else if e1 < k + 1 then (z : Int) else if e2 < z + (lfLine r).1.length then (e2 : Int) else beyM e1 e2 f (lfLine r).2 (z + (lfLine r).1.length) (k + 1)
structure NextOk {β : Type} (E : MEnv β) (nx : Int → Int → Int × Bool) (B : Int → Prop) : Prop where
  n0 : ∀ c, B c → nx 0 c = if c = 13 then (4, true) else (1, E.tk c)
  n1 : ∀ c, B c → nx 1 c = if c = 58 then (2, true) else (1, E.tk c)
  n2 : ∀ c, B c → nx 2 c = if c = 13 then (3, true) else (2, E.tx c)
  n3 : ∀ c, B c → nx 3 c = (0, c == 10)
  n4 : ∀ c, B c → nx 4 c = (5, c == 10)
  k10 : E.tk 10 = false
  k13 : E.tk 13 = false
  t10 : E.tx 10 = false
  t13 : E.tx 13 = false
section
variable {β : Type} {E : MEnv β} {nx : Int → Int → Int × Bool} {B : Int → Prop}
theorem scanI_ge : ∀ (l : List Int) (i : Nat) (st : Int), i ≤ (scanI nx i l st).1 ∧ (scanI nx i l st).1 ≤ i + l.length
  | [], i, st => ⟨Nat.le_refl _, Nat.le_refl _⟩
  | c :: l, i, st => by
    rw [scanI]
    split
    · split
      · simp only [List.length_cons]; omega
      · have := scanI_ge l (i + 1) (nx st c).1
        simp only [List.length_cons]; omega
    · simp only [List.length_cons]; omega
theorem scanI_bad {i : Nat} {c : Int} {l : List Int} {st x : Int} (h : nx st c = (x, false)) : scanI nx i (c :: l) st = (i, 2) := by
  rw [scanI, h, if_neg (by simp)]
theorem scanI_on {i : Nat} {c : Int} {l : List Int} {st x : Int} (h : nx st c = (x, true)) (hx : x ≠ 5) : scanI nx i (c :: l) st = scanI nx (i + 1) l x := by
  rw [scanI, h]; simp only [if_true]; rw [if_neg hx]
theorem scanI_fin {i : Nat} {c : Int} {l : List Int} {st : Int} (h : nx st c = (5, true)) : scanI nx i (c :: l) st = (i + 1, 0) := by
  rw [scanI, h]; simp only [if_true]
theorem line_full {s : MSt β} {c : Int} (h : E.e2 ≤ s.size) : mline E s c = .error 5 := by unfold mline; rw [if_pos h]
theorem line_on {s : MSt β} {c : Int} (h : s.size < E.e2) (hc : ¬ (c = 10 ∧ s.place = 9)) : mline E s c = .ok { s with size := s.size + 1, text := s.text ++ [c] } := by unfold mline; rw [if_neg (by omega), if_neg hc]
theorem line_end {s : MSt β} (h : s.size < E.e2) (hp : s.place = 9) : mline E s 10 = .ok { s with size := s.size + 1, fields := s.fields ++ [E.pf s.text.dropLast], text := [], place := 6 } := by unfold mline; rw [if_neg (by omega), if_pos ⟨rfl, hp⟩]
def Stops (E : MEnv β) (st : MSt β) (r : List Int) (i n : Nat) (e : Int) : Prop := ∃ st', mrun E st r i = (st', n, e) ∧ st'.data = st.data
theorem Stops.of {st st' : MSt β} {r r' : List Int} {i i' n : Nat} {e : Int} (h : mrun E st r i = mrun E st' r' i') (hd : st'.data = st.data) (k : Stops E st' r' i' n e) : Stops E st r i n e := by
  obtain ⟨q, h1, h2⟩ := k
  exact ⟨q, h.trans h1, h2.trans hd⟩
theorem in_step (N : NextOk E nx B) {c : Int} (hB : B c) {st x : Int} (hst : st = 1 ∨ st = 2 ∨ st = 3) {X : MSt β} (hp : (X.place : Int) = st + 6) :
    (nx st c = (x, false) → mstep E X c = .error 2) ∧
    (nx st c = (x, true) → E.e2 ≤ X.size → mstep E X c = .error 5) ∧
    (nx st c = (x, true) → X.size < E.e2 →
      if st = 3 then c = 10 ∧ x = 0 ∧ mstep E X c = .ok { X with size := X.size + 1, fields := X.fields ++ [E.pf X.text.dropLast], text := [], place := 6 }
      else c ≠ 10 ∧ (x = 1 ∨ x = 2 ∨ x = 3) ∧ (x = 3 → c = 13) ∧ (x ≠ 3 → c ≠ 13) ∧ mstep E X c = .ok { X with size := X.size + 1, text := X.text ++ [c], place := (x + 6).toNat }) := by
  rcases hst with rfl | rfl | rfl
  · have hp7 : X.place = 7 := by omega
    rw [N.n1 c hB]
    by_cases h : c = 58
    · subst h
      rw [if_pos rfl]
      refine ⟨fun e => (by cases e), fun e hz => ?_, fun e hz => ?_⟩
      · rw [step7 hp7, if_pos rfl]; exact line_full hz
      · cases e
        rw [if_neg (by decide)]
        refine ⟨by decide, by decide, by decide, by decide, ?_⟩
        rw [step7 hp7, if_pos rfl, line_on (by exact hz) (fun h => absurd h.1 (by decide))]
        rfl
    · rw [if_neg h]
      refine ⟨fun e => ?_, fun e hz => ?_, fun e hz => ?_⟩
      · injection e with e1 e2
        rw [step7 hp7, if_neg h, if_pos e2]
      · injection e with e1 e2
        rw [step7 hp7, if_neg h, e2, if_neg (by simp), line_full hz]
      · injection e with e1 e2
        subst e1
        have h10 : c ≠ 10 := by rintro rfl; rw [N.k10] at e2; cases e2
        have h13 : c ≠ 13 := by rintro rfl; rw [N.k13] at e2; cases e2
        rw [if_neg (by decide)]
        refine ⟨h10, by decide, fun h => absurd h (by decide), fun _ => h13, ?_⟩
        rw [step7 hp7, if_neg h, e2, if_neg (by simp), line_on hz (fun e => h10 e.1), hp7]
        rfl
  · have hp8 : X.place = 8 := by omega
    rw [N.n2 c hB]
    by_cases h : c = 13
    · subst h
      rw [if_pos rfl]
      refine ⟨fun e => (by cases e), fun e hz => ?_, fun e hz => ?_⟩
      · rw [step8 hp8, if_pos rfl]; exact line_full hz
      · cases e
        rw [if_neg (by decide)]
        refine ⟨by decide, by decide, by decide, by decide, ?_⟩
        rw [step8 hp8, if_pos rfl, line_on (by exact hz) (fun h => absurd h.1 (by decide))]
        rfl
    · rw [if_neg h]
      refine ⟨fun e => ?_, fun e hz => ?_, fun e hz => ?_⟩
      · injection e with e1 e2
        rw [step8 hp8, if_neg h, if_pos e2]
      · injection e with e1 e2
        rw [step8 hp8, if_neg h, e2, if_neg (by simp), line_full hz]
      · injection e with e1 e2
        subst e1
        have h10 : c ≠ 10 := by rintro rfl; rw [N.t10] at e2; cases e2
        rw [if_neg (by decide)]
        refine ⟨h10, by decide, fun h => absurd h (by decide), fun _ => h, ?_⟩
        rw [step8 hp8, if_neg h, e2, if_neg (by simp), line_on hz (fun e => h10 e.1), hp8]
        rfl
  · have hp9 : X.place = 9 := by omega
    rw [N.n3 c hB]
    refine ⟨fun e => ?_, fun e hz => ?_, fun e hz => ?_⟩
    · injection e with e1 e2
      have : c ≠ 10 := by simpa using e2
      rw [step9 hp9, if_pos this]
    · injection e with e1 e2
      have : c = 10 := by simpa using e2
      rw [step9 hp9, if_neg (by simp [this]), line_full hz]
    · injection e with e1 e2
      have : c = 10 := by simpa using e2
      subst this
      rw [if_pos rfl]
      refine ⟨rfl, e1.symm, ?_⟩
      rw [step9 hp9, if_neg (by simp), line_end hz hp9]
theorem line_run (N : NextOk E nx B) : ∀ (r : List Int) (i : Nat) (st : Int) (X : MSt β), (∀ c ∈ r, B c) → (st = 1 ∨ st = 2 ∨ st = 3) → (X.place : Int) = st + 6 → X.size ≤ E.e2 → ∀ (n : Nat) (e : Int), scanI nx i r st = (n, e) →
    ∃ ln rest, lfLine (r.take (n - i)) = (ln, rest) ∧
      ((E.e2 < X.size + ln.length ∧ Stops E X r i (i + (E.e2 - X.size)) 5) ∨
       (X.size + ln.length ≤ E.e2 ∧ e ≠ 0 ∧ rest = [] ∧ Stops E X r i n e) ∨
       (X.size + ln.length ≤ E.e2 ∧ ∃ w, ln = (if st = 3 then [10] else w ++ [13, 10]) ∧ (∀ c ∈ w, c ≠ 13 ∧ c ≠ 10) ∧ ∃ r', r = ln ++ r' ∧ scanI nx (i + ln.length) r' 0 = (n, e) ∧ rest = r'.take (n - (i + ln.length)) ∧
          mrun E X r i = mrun E { X with place := 6, size := X.size + ln.length, text := [], fields := X.fields ++ [E.pf (X.text ++ ln.dropLast).dropLast] } r' (i + ln.length)))
  | [], i, st, X, _, hst, hp, hz, n, e, hs => by
    cases hs
    refine ⟨[], [], by simp [lfLine], .inr (.inl ⟨by simpa using hz, by decide, rfl, X, rfl, rfl⟩)⟩
  | c :: r, i, st, X, hB, hst, hp, hz, n, e, hs => by
    obtain ⟨q, hq⟩ : ∃ q, nx st c = q := ⟨_, rfl⟩
    obtain ⟨x, ok⟩ := q
    obtain ⟨s1, s2, s3⟩ := in_step (x := x) N (hB c List.mem_cons_self) hst hp
    cases ok with
    | false =>
      rw [scanI_bad hq] at hs
      cases hs
      refine ⟨[], [], by simp [lfLine], .inr (.inl ⟨by simpa using hz, by decide, rfl, X, ?_, rfl⟩)⟩
      rw [run_err (s1 hq)]
    | true =>
      have hx5 : x ≠ 5 := by
        rcases hst with rfl | rfl | rfl
        · rw [N.n1 c (hB c List.mem_cons_self)] at hq
          split at hq <;> (injection hq with h1 h2; subst h1; decide)
        · rw [N.n2 c (hB c List.mem_cons_self)] at hq
          split at hq <;> (injection hq with h1 h2; subst h1; decide)
        · rw [N.n3 c (hB c List.mem_cons_self)] at hq
          injection hq with h1 h2
          subst h1; decide
      rw [scanI_on hq hx5] at hs
      have hge := scanI_ge (nx := nx) r (i + 1) x
      rw [hs] at hge
      dsimp only at hge
      have htk : (c :: r).take (n - i) = c :: r.take (n - (i + 1)) := by
        obtain ⟨m, hm⟩ : ∃ m, n - i = m + 1 := ⟨n - i - 1, by omega⟩
        rw [hm, List.take_succ_cons]
        congr 2
        omega
      rw [htk]
      by_cases hfull : E.e2 ≤ X.size
      · have hlen : ∃ ln rest, lfLine (c :: r.take (n - (i + 1))) = (ln, rest) ∧ 0 < ln.length := by
          rw [lfLine]
          split
          · exact ⟨_, _, rfl, by simp⟩
          · exact ⟨_, _, rfl, by simp⟩
        obtain ⟨ln, rest, h1, h2⟩ := hlen
        refine ⟨ln, rest, h1, .inl ⟨by omega, X, ?_, rfl⟩⟩
        rw [run_err (s2 hq hfull), show i + (E.e2 - X.size) = i by omega]
      · have s4 := s3 hq (by omega)
        by_cases h3 : st = 3
        · rw [if_pos h3] at s4
          obtain ⟨rfl, rfl, hstep⟩ := s4
          refine ⟨[10], r.take (n - (i + 1)), by rw [lfLine, if_pos rfl], .inr (.inr ⟨by simp; omega, [], by rw [if_pos h3], by simp, r, rfl, hs, rfl, ?_⟩)⟩
          rw [run_on hstep (by simp)]
          simp
        · rw [if_neg h3] at s4
          obtain ⟨h10, hx, hx3, hx13, hstep⟩ := s4
          obtain ⟨ln, rest, hl, hc⟩ := line_run N r (i + 1) x { X with size := X.size + 1, text := X.text ++ [c], place := (x + 6).toNat } (fun d hd => hB d (List.mem_cons_of_mem _ hd)) hx (by show ((x + 6).toNat : Int) = x + 6; omega) (by show X.size + 1 ≤ E.e2; omega) n e hs
          have hr : mrun E X (c :: r) i = mrun E { X with size := X.size + 1, text := X.text ++ [c], place := (x + 6).toNat } r (i + 1) := run_on hstep (by show (x + 6).toNat ≠ 11; omega)
          refine ⟨c :: ln, rest, by rw [lfLine, if_neg h10, hl], ?_⟩
          rcases hc with ⟨h1, h2⟩ | ⟨h1, h2, h4, h5⟩ | ⟨h1, w, h2, h4, r', h5, h6, h7, h8⟩
          · refine .inl ⟨by simp only [List.length_cons]; dsimp only at h1; omega, Stops.of hr rfl ?_⟩
            have : i + (E.e2 - X.size) = i + 1 + (E.e2 - (X.size + 1)) := by omega
            rw [this]
            exact h2
          · exact .inr (.inl ⟨by simp only [List.length_cons]; dsimp only at h1; omega, h2, h4, Stops.of hr rfl h5⟩)
          · refine .inr (.inr ⟨by simp only [List.length_cons]; dsimp only at h1; omega, if x = 3 then [] else c :: w, ?_, ?_, r', by rw [h5]; rfl, by rw [List.length_cons, show i + (ln.length + 1) = i + 1 + ln.length by omega]; exact h6, by rw [List.length_cons, show i + (ln.length + 1) = i + 1 + ln.length by omega]; exact h7, ?_⟩)
            · rw [if_neg h3]
              by_cases e3 : x = 3
              · rw [if_pos e3] at h2 ⊢
                rw [h2, hx3 e3]; rfl
              · rw [if_neg e3] at h2 ⊢
                rw [h2]; rfl
            · split
              · simp
              · rename_i e3
                intro d hd
                rcases List.mem_cons.1 hd with rfl | hd
                · exact ⟨hx13 e3, h10⟩
                · exact h4 d hd
            · rw [hr, h8]
              have hne : ln ≠ [] := by
                rw [h2]; split <;> simp
              simp only [List.length_cons, List.dropLast_cons_of_ne_nil hne, List.append_assoc, List.singleton_append]
              congr 1
              · congr 1
                omega
              · omega
theorem lf_snd_lt : ∀ (r : List Int), r ≠ [] → (lfLine r).2.length < r.length
  | [], h => absurd rfl h
  | c :: r, _ => by
    rw [lfLine]
    split
    · simp
    · cases r with
      | nil => simp [lfLine]
      | cons d r =>
        have := lf_snd_lt (d :: r) (by simp)
        simp only [List.length_cons] at this ⊢
        omega
theorem sect_run (N : NextOk E nx B) : ∀ (f : Nat) (r : List Int) (i : Nat) (X : MSt β), r.length < f → (∀ c ∈ r, B c) → X.place = 6 → X.size ≤ E.e2 → X.text = [] → ∀ (n : Nat) (e : Int), scanI nx i r 0 = (n, e) →
    (0 ≤ beyM E.e1 E.e2 f (r.take (n - i)) X.size X.lines → (X.size : Int) ≤ beyM E.e1 E.e2 f (r.take (n - i)) X.size X.lines ∧ Stops E X r i (i + ((beyM E.e1 E.e2 f (r.take (n - i)) X.size X.lines).toNat - X.size)) 5) ∧
    (beyM E.e1 E.e2 f (r.take (n - i)) X.size X.lines < 0 → e ≠ 0 → Stops E X r i n e) ∧
    (beyM E.e1 E.e2 f (r.take (n - i)) X.size X.lines < 0 → e = 0 → ∃ (ls : List (List Int)) (st' : MSt β), r.take (n - i) = ls.flatMap (· ++ [13, 10]) ++ [13, 10] ∧ (∀ l ∈ ls, l ≠ [] ∧ ∀ c ∈ l, c ≠ 13 ∧ c ≠ 10) ∧ mrun E X r i = (st', n, 0) ∧ st'.data = X.data ∧ st'.fields = X.fields ++ ls.map E.pf ∧ st'.place = 11)
  | 0, r, i, X, hf, _, _, _, _, n, e, _ => by omega
  | f + 1, [], i, X, hf, hB, hp, hz, ht, n, e, hs => by
    cases hs
    have hb : beyM E.e1 E.e2 (f + 1) (([] : List Int).take (i - i)) X.size X.lines = -1 := by rw [beyM]; simp
    rw [hb]
    exact ⟨fun h => by omega, fun _ _ => ⟨X, rfl, rfl⟩, fun _ h => by cases h⟩
  | f + 1, c :: r, i, X, hf, hB, hp, hz, ht, n, e, hs => by
    have hge := scanI_ge (nx := nx) (c :: r) i 0
    rw [hs] at hge
    dsimp only at hge
    have hn0 := N.n0 c (hB c List.mem_cons_self)
    by_cases h13 : c = 13
    · subst h13
      rw [if_pos rfl] at hn0
      rw [scanI_on hn0 (by decide)] at hs
      have hst : mstep E X 13 = .ok { X with place := 10 } := by rw [step6 hp, if_pos rfl]
      have hr : mrun E X (13 :: r) i = mrun E { X with place := 10 } r (i + 1) := run_on hst (by simp)
      have hge1 := scanI_ge (nx := nx) r (i + 1) 4
      rw [hs] at hge1
      dsimp only at hge1
      obtain ⟨m, hm⟩ : ∃ m, n - i = m + 1 := ⟨n - i - 1, by omega⟩
      have hb : beyM E.e1 E.e2 (f + 1) ((13 :: r).take (n - i)) X.size X.lines = -1 := by
        rw [hm, List.take_succ_cons, beyM, if_neg (by simp), if_pos (by rw [lfLine, if_neg (by decide)]; rfl)]
      rw [hb]
      refine ⟨fun h => by omega, fun _ he => ?_, fun _ he => ?_⟩
      · refine Stops.of hr rfl ?_
        cases r with
        | nil =>
          cases hs
          exact ⟨_, rfl, rfl⟩
        | cons d r =>
          have hn4 := N.n4 d (hB d (by simp))
          by_cases h10 : d = 10
          · rw [scanI_fin (by rw [hn4, h10]; rfl)] at hs
            cases hs
            exact absurd rfl he
          · rw [scanI_bad (x := 5) (by rw [hn4]; simp [h10])] at hs
            cases hs
            exact ⟨_, run_err (by rw [step10 rfl, if_pos h10]), rfl⟩
      · cases r with
        | nil => cases hs; cases he
        | cons d r =>
          have hn4 := N.n4 d (hB d (by simp))
          by_cases h10 : d = 10
          · rw [scanI_fin (by rw [hn4, h10]; rfl)] at hs
            cases hs
            subst h10
            refine ⟨[], { X with place := 11 }, ?_, by simp, ?_, rfl, by simp, rfl⟩
            · rw [show i + 1 + 1 - i = 2 by omega]
              simp
            · rw [hr, run_fin (x := { X with place := 11 }) (by rw [step10 rfl, if_neg (by simp)]) rfl]
          · rw [scanI_bad (x := 5) (by rw [hn4]; simp [h10])] at hs
            cases hs
            cases he
    · rw [if_neg h13] at hn0
      cases hk : E.tk c with
      | false =>
        rw [hk] at hn0
        rw [scanI_bad hn0] at hs
        cases hs
        have hb : beyM E.e1 E.e2 (f + 1) ((c :: r).take (i - i)) X.size X.lines = -1 := by rw [beyM]; simp
        rw [hb]
        refine ⟨fun h => by omega, fun _ _ => ⟨X, ?_, rfl⟩, fun _ h => by cases h⟩
        rw [run_err (by rw [step6 hp, if_neg h13, if_pos hk])]
      | true =>
        rw [hk] at hn0
        rw [scanI_on hn0 (by decide)] at hs
        have h10 : c ≠ 10 := by rintro rfl; rw [N.k10] at hk; cases hk
        have hge1 := scanI_ge (nx := nx) r (i + 1) 1
        rw [hs] at hge1
        dsimp only at hge1
        have htk : (c :: r).take (n - i) = c :: r.take (n - (i + 1)) := by
          obtain ⟨m, hm⟩ : ∃ m, n - i = m + 1 := ⟨n - i - 1, by omega⟩
          rw [hm, List.take_succ_cons]
          congr 2
          omega
        rw [htk]
        have hlf : lfLine (c :: r.take (n - (i + 1))) = (c :: (lfLine (r.take (n - (i + 1)))).1, (lfLine (r.take (n - (i + 1)))).2) := by rw [lfLine, if_neg h10]
        rw [beyM, if_neg (by simp), hlf, if_neg (by simpa using h13)]
        dsimp only
        by_cases hln : E.e1 < X.lines + 1
        · rw [if_pos hln]
          refine ⟨fun _ => ⟨Int.le_refl _, X, ?_, rfl⟩, fun h => by omega, fun h => by omega⟩
          rw [run_err (e := 5) (by rw [step6 hp, if_neg h13, hk, if_neg (by simp), if_pos (by omega)])]
          simp
        · rw [if_neg hln]
          by_cases hfull : E.e2 ≤ X.size
          · rw [if_pos (by simp only [List.length_cons]; omega)]
            refine ⟨fun _ => ⟨by omega, X, ?_, rfl⟩, fun h => by omega, fun h => by omega⟩
            rw [run_err (e := 5) (by rw [step6 hp, if_neg h13, hk, if_neg (by simp), if_neg (by omega)]; exact line_full hfull)]
            simp only [Int.toNat_natCast]
            rw [show i + (E.e2 - X.size) = i by omega]
          · have hst : mstep E X c = .ok { X with lines := X.lines + 1, place := 7, size := X.size + 1, text := X.text ++ [c] } := by
              rw [step6 hp, if_neg h13, hk, if_neg (by simp), if_neg (by omega)]
              exact line_on (s := { X with lines := X.lines + 1, place := 7 }) (by show X.size < E.e2; omega) (fun h => h10 h.1)
            have hr : mrun E X (c :: r) i = mrun E { X with lines := X.lines + 1, place := 7, size := X.size + 1, text := X.text ++ [c] } r (i + 1) := run_on hst (by simp)
            obtain ⟨ln, rest, hl, hc⟩ := line_run N r (i + 1) 1 { X with lines := X.lines + 1, place := 7, size := X.size + 1, text := X.text ++ [c] } (fun d hd => hB d (List.mem_cons_of_mem _ hd)) (.inl rfl) (by simp) (by show X.size + 1 ≤ E.e2; omega) n e hs
            rw [hl]
            dsimp only at hc ⊢
            rw [List.length_cons]
            rcases hc with ⟨h1, h2⟩ | ⟨h1, h2, h3, h4⟩ | ⟨h1, w, h2, h3, r', h4, h5, h6, h7⟩
            · rw [if_pos (by omega)]
              refine ⟨fun _ => ⟨by omega, Stops.of hr rfl ?_⟩, fun h => by omega, fun h => by omega⟩
              rw [Int.toNat_natCast, show i + (E.e2 - X.size) = i + 1 + (E.e2 - (X.size + 1)) by omega]
              exact h2
            · rw [if_neg (by omega), h3]
              have hb : ∀ z k, beyM E.e1 E.e2 f [] z k = -1 := by
                intro z k
                cases f with
                | zero => rfl
                | succ f => rw [beyM, if_pos rfl]
              rw [hb]
              exact ⟨fun h => by omega, fun _ _ => Stops.of hr rfl h4, fun _ h => absurd h h2⟩
            · rw [if_neg (by omega), h6]
              rw [if_neg (by decide)] at h2
              have hlen : r'.length < f := by
                have := congrArg List.length h4
                rw [List.length_append] at this
                simp only [List.length_cons] at hf
                omega
              have ih := sect_run N f r' (i + 1 + ln.length) { X with lines := X.lines + 1, place := 6, size := X.size + 1 + ln.length, text := [], fields := X.fields ++ [E.pf (X.text ++ [c] ++ ln.dropLast).dropLast] } hlen
                (fun d hd => hB d (List.mem_cons_of_mem _ (by rw [h4]; exact List.mem_append_right _ hd))) rfl h1 rfl n e h5
              obtain ⟨i1, i2, i3⟩ := ih
              dsimp only at i1 i2 i3
              have hr2 := hr.trans h7
              have hsz : X.size + (ln.length + 1) = X.size + 1 + ln.length := by omega
              rw [hsz]
              refine ⟨fun h => ?_, fun h he => Stops.of hr2 rfl (i2 h he), fun h he => ?_⟩
              · obtain ⟨j1, j2⟩ := i1 h
                refine ⟨by omega, Stops.of hr2 rfl ?_⟩
                have : ∀ q : Nat, X.size + 1 + ln.length ≤ q → i + (q - X.size) = i + 1 + ln.length + (q - (X.size + 1 + ln.length)) := fun q hq => by omega
                rw [this _ (by omega)]
                exact j2
              · obtain ⟨ls, st', j1, j2, j3, j4, j5, j6⟩ := i3 h he
                have hge2 := scanI_ge (nx := nx) r' (i + 1 + ln.length) 0
                rw [h5] at hge2
                dsimp only at hge2
                refine ⟨(c :: w) :: ls, st', ?_, ?_, hr2.trans j3, j4, ?_, j6⟩
                · rw [List.flatMap_cons, List.append_assoc, ← j1, h4, List.take_append, List.take_of_length_le (by omega), h2]
                  simp only [List.cons_append, List.append_assoc]
                  congr 4
                  rw [List.nil_append, List.nil_append, Nat.sub_sub]
                · intro l hl
                  rcases List.mem_cons.1 hl with rfl | hl
                  · refine ⟨by simp, fun d hd => ?_⟩
                    rcases List.mem_cons.1 hd with rfl | hd
                    · exact ⟨h13, h10⟩
                    · exact h3 d hd
                  · exact j2 l hl
                · rw [j5, ht, h2, List.map_cons]
                  have : (w ++ [13, 10]).dropLast = w ++ [13] := by
                    rw [show w ++ [13, 10] = (w ++ [13]) ++ [10] by simp, List.dropLast_concat]
                  rw [this]
                  simp only [List.nil_append, List.append_assoc, List.singleton_append]
                  rw [← List.cons_append, List.dropLast_concat]
end
def linesB : List Int → List (List Int)
  | [] => []
  | c :: r => if c = 10 then [10] :: linesB r else match linesB r with
    | [] => [[c]]
    | l :: ls => (c :: l) :: ls
theorem linesB_cons : ∀ (r : List Int), r ≠ [] → linesB r = (lfLine r).1 :: linesB (lfLine r).2
  | [], h => absurd rfl h
  | c :: r, _ => by
    rw [linesB, lfLine]
    by_cases hc : c = 10
    · rw [if_pos hc, if_pos hc]
    · rw [if_neg hc, if_neg hc]
      cases r with
      | nil => rfl
      | cons d r => rw [linesB_cons (d :: r) (by simp)]
def beyL (e1 e2 : Nat) : List (List Int) → Nat → Nat → Int
  | [], _, _ => -1
  | ln :: ls, z, k => if ln.getD 0 0 = 13 then -1 else if e1 < k + 1 then (z : Int) else if e2 < z + ln.length then (e2 : Int) else beyL e1 e2 ls (z + ln.length) (k + 1)
theorem beyM_L (e1 e2 : Nat) : ∀ (f : Nat) (r : List Int) (z k : Nat), r.length < f → beyM e1 e2 f r z k = beyL e1 e2 (linesB r) z k
  | 0, r, z, k, h => by omega
  | f + 1, r, z, k, h => by
    rw [beyM]
    by_cases h0 : r = []
    · rw [if_pos h0, h0]; rfl
    · have hlt := lf_snd_lt r h0
      rw [if_neg h0, linesB_cons r h0, beyL, beyM_L e1 e2 f (lfLine r).2 _ _ (by omega)]
end Go.Proofs.YtmmbpbgcobmifaaGreatDoorM
end
section
namespace Go.Proofs.YtmmbpbgcobmifaaGreatDoor.Pr
end Go.Proofs.YtmmbpbgcobmifaaGreatDoor.Pr
namespace Go.Proofs.YtmmbpbgcobmifaaGreatDoorH
open Go.RowKit Go.Proofs.YtmmbpbgcobmifaaGreatDoorW.PrintWords Go.Proofs.YtmmbpbgcobmifaaGreatDoorW.PrintLast Go.Proofs.YtmmbpbgcobmifaaGreatDoorW.PrintMore Go.Proofs.YtmmbpbgcobmifaaGreatDoor.Pr Go.Proofs.YtmmbpbgcobmifaaGreatDoorM
structure Good {β : Type} (E : MEnv β) : Prop where
  dg : ∀ c, E.dg c = digI c
  tx : ∀ c, E.tx c = textB c
  d59 : digI 59 < 0
  d13 : digI 13 < 0
  t59 : textB 59 = true
  t13 : textB 13 = false
  t10 : textB 10 = false
  k13 : E.tk 13 = false
  k10 : E.tk 10 = false
  k58 : E.tk 58 = false
section
variable {β : Type} {E : MEnv β}
def EndsSo (E : MEnv β) (st : MSt β) (s : List Int) (a : Nat) (x : Nat × Int) (D : List Int) : Prop := ∃ st', mrun E st (s.drop a) a = (st', x.1, x.2) ∧ st'.data = D
theorem drop_at {s : List Int} {a : Nat} (h : a < s.length) : s.drop a = s.getD a 0 :: s.drop (a + 1) := by
  rw [List.drop_eq_getElem_cons h, List.getD_eq_getElem?_getD, List.getElem?_eq_getElem h]; rfl
theorem EndsSo.more {st : MSt β} {s : List Int} {a : Nat} (h : ¬ a < s.length) (ha : a ≤ s.length) : EndsSo E st s a (a, 4) st.data := by
  refine ⟨st, ?_, rfl⟩
  rw [List.drop_eq_nil_of_le (by omega), mrun]
theorem EndsSo.err {st : MSt β} {s : List Int} {a : Nat} {e : Int} (h : a < s.length) (hs : mstep E st (s.getD a 0) = .error e) : EndsSo E st s a (a, e) st.data := by
  refine ⟨st, ?_, rfl⟩
  rw [drop_at h, run_err hs]
theorem EndsSo.of {st st' : MSt β} {s : List Int} {a a' : Nat} {x : Nat × Int} {D : List Int} (h : mrun E st (s.drop a) a = mrun E st' (s.drop a') a') (k : EndsSo E st' s a' x D) : EndsSo E st s a x D := by
  obtain ⟨q, hq, hd⟩ := k
  exact ⟨q, h.trans hq, hd⟩
theorem size_run (G : Good E) (s : List Int) : ∀ (f a n g : Nat) (st : MSt β), s.length - a < f → a ≤ s.length → g ≤ 16 → st.place = 0 → st.n = n → st.count = g →
    match sizeL f s a n g with
    | .error x => EndsSo E st s a x st.data
    | .ok (m, a1) => ∃ g', 0 < g' ∧ a1 < s.length ∧ digI (s.getD a1 0) < 0 ∧ mrun E st (s.drop a) a = mrun E { st with n := m, count := g' } (s.drop a1) a1
  | 0, a, n, g, st, hf, _, _, _, _, _ => by omega
  | f + 1, a, n, g, st, hf, ha, hg, hp, hn, hc => by
    rw [sizeL]
    by_cases h : a < s.length
    · rw [if_pos h]
      by_cases hd : digI (s.getD a 0) < 0
      · rw [if_pos hd]
        by_cases h0 : 0 < g
        · rw [if_pos h0]
          refine ⟨g, h0, h, hd, ?_⟩
          subst hn hc
          rfl
        · rw [if_neg h0]
          exact EndsSo.err h (by rw [step0 hp, G.dg, if_neg (by omega), if_pos (.inl (by omega))])
      · rw [if_neg hd]
        by_cases hle : g < 16 ∧ n ≤ (4611686018427387903 - (digI (s.getD a 0)).toNat) / 16
        · rw [if_pos hle]
          have hst : mstep E st (s.getD a 0) = .ok { st with n := 16 * n + (digI (s.getD a 0)).toNat, count := g + 1 } := by
            rw [step0 hp, G.dg, if_pos (by omega), if_neg (by omega), hn, hc]
          have ih := size_run G s f (a + 1) (16 * n + (digI (s.getD a 0)).toNat) (g + 1) { st with n := 16 * n + (digI (s.getD a 0)).toNat, count := g + 1 } (by omega) (by omega) (by omega) hp rfl rfl
          have hr : mrun E st (s.drop a) a = mrun E { st with n := 16 * n + (digI (s.getD a 0)).toNat, count := g + 1 } (s.drop (a + 1)) (a + 1) := by
            rw [drop_at h, run_on hst (by show st.place ≠ 11; omega)]
          cases hq : sizeL f s (a + 1) (16 * n + (digI (s.getD a 0)).toNat) (g + 1) with
          | error x =>
            rw [hq] at ih
            exact EndsSo.of hr ih
          | ok x =>
            obtain ⟨m, a1⟩ := x
            rw [hq] at ih
            obtain ⟨g', h1, h2, h3, h4⟩ := ih
            exact ⟨g', h1, h2, h3, hr.trans h4⟩
        · rw [if_neg hle]
          exact EndsSo.err h (by rw [step0 hp, G.dg, if_pos (by omega), if_pos (by omega)])
    · rw [if_neg h]
      exact EndsSo.more h ha
theorem end_run {s : List Int} {a : Nat} {st : MSt β} (ha : a ≤ s.length) (h13 : mstep E st 13 = .ok { st with place := 2 }) (hne : a < s.length → s.getD a 0 ≠ 13 → mstep E st (s.getD a 0) = .error 2) :
    match endM s a with
    | .error x => EndsSo E st s a x st.data
    | .ok (_, a3) => a3 ≤ s.length ∧ mrun E st (s.drop a) a = mrun E { st with place := if 0 < st.n then 3 else 6 } (s.drop a3) a3 := by
  unfold endM byteM
  by_cases h : a < s.length
  · rw [if_pos h]
    by_cases hc : s.getD a 0 = 13
    · rw [if_pos hc]
      dsimp only
      have hr : mrun E st (s.drop a) a = mrun E { st with place := 2 } (s.drop (a + 1)) (a + 1) := by
        rw [drop_at h, hc, run_on h13 (by simp)]
      by_cases h1 : a + 1 < s.length
      · rw [if_pos h1]
        by_cases hc1 : s.getD (a + 1) 0 = 10
        · rw [if_pos hc1]
          refine ⟨by omega, ?_⟩
          rw [hr, drop_at h1, hc1]
          by_cases hn : 0 < st.n
          · rw [if_pos hn, run_on (x := { st with place := 3 }) (by rw [step2 rfl, if_neg (by simp), if_pos hn]) (by simp)]
          · rw [if_neg hn, run_on (x := { st with place := 6 }) (by rw [step2 rfl, if_neg (by simp), if_neg hn]) (by simp)]
        · rw [if_neg hc1]
          exact EndsSo.of hr (EndsSo.err (st := { st with place := 2 }) h1 (by rw [step2 rfl, if_pos hc1]))
      · rw [if_neg h1]
        exact EndsSo.of hr (EndsSo.more (st := { st with place := 2 }) h1 (by omega))
    · rw [if_neg hc]
      exact EndsSo.err h (hne h hc)
  · rw [if_neg h]
    exact EndsSo.more h ha
theorem ext_run (G : Good E) (s : List Int) : ∀ (f a n : Nat) (st : MSt β), s.length - a < f → a ≤ s.length → st.place = 1 → st.count = n →
    match extL f s (E.e0 : Int) a (n + 1) with
    | .error x => EndsSo E st s a x st.data
    | .ok (_, a2) => a2 ≤ s.length ∧ textB (s.getD a2 0) = false ∧ ∃ k, mrun E st (s.drop a) a = mrun E { st with count := k } (s.drop a2) a2
  | 0, a, n, st, hf, _, _, _ => by omega
  | f + 1, a, n, st, hf, ha, hp, hc => by
    rw [extL]
    by_cases h : a < s.length
    · rw [if_pos h]
      by_cases ht : textB (s.getD a 0) = true
      · rw [if_pos ht]
        have hn13 : ¬ s.getD a 0 = 13 := by
          intro e; rw [e, G.t13] at ht; cases ht
        by_cases hle : ((n + 1 : Nat) : Int) ≤ (E.e0 : Int)
        · rw [if_pos hle]
          have hst : mstep E st (s.getD a 0) = .ok { st with count := n + 1 } := by
            rw [step1 hp, G.tx, if_neg hn13, if_neg (by rw [ht]; simp), if_neg (by omega), hc]
          have hr : mrun E st (s.drop a) a = mrun E { st with count := n + 1 } (s.drop (a + 1)) (a + 1) := by
            rw [drop_at h, run_on hst (by show st.place ≠ 11; omega)]
          have ih := ext_run G s f (a + 1) (n + 1) { st with count := n + 1 } (by omega) (by omega) hp rfl
          cases hq : extL f s (E.e0 : Int) (a + 1) (n + 1 + 1) with
          | error x =>
            rw [hq] at ih
            exact EndsSo.of hr ih
          | ok x =>
            obtain ⟨u, a1⟩ := x
            rw [hq] at ih
            obtain ⟨h1, h2, k, h3⟩ := ih
            exact ⟨h1, h2, k, hr.trans h3⟩
        · rw [if_neg hle]
          exact EndsSo.err h (by rw [step1 hp, G.tx, if_neg hn13, if_neg (by rw [ht]; simp), if_pos (by omega)])
      · rw [if_neg ht]
        exact ⟨ha, by simpa using ht, st.count, rfl⟩
    · rw [if_neg h]
      exact EndsSo.more h ha
theorem sized_run (G : Good E) (s : List Int) (a : Nat) (st : MSt β) (ha : a < s.length) (hd : digI (s.getD a 0) < 0) (hp : st.place = 0) (hg : 0 < st.count) :
    match extM s (E.e0 : Int) a with
    | .error x => EndsSo E st s a x st.data
    | .ok (_, a2) => match endM s a2 with
      | .error x => EndsSo E st s a x st.data
      | .ok (_, a3) => a3 ≤ s.length ∧ ∃ k, mrun E st (s.drop a) a = mrun E { st with place := if 0 < st.n then 3 else 6, count := k } (s.drop a3) a3 := by
  have h13 : mstep E st 13 = .ok { st with place := 2 } := by
    rw [step0 hp, G.dg, if_neg (by have := G.d13; omega), if_neg (by omega), if_pos rfl]
  unfold extM
  rw [if_pos ha]
  by_cases h59 : s.getD a 0 = 59
  · rw [if_pos h59]
    have hex : extL (s.length - a + 1) s (E.e0 : Int) a 1 = if ((1 : Nat) : Int) ≤ (E.e0 : Int) then extL (s.length - a) s (E.e0 : Int) (a + 1) (1 + 1) else .error (a, 5) := by
      rw [extL, if_pos ha, if_pos (by rw [h59]; exact G.t59)]
    rw [hex]
    by_cases h1 : ((1 : Nat) : Int) ≤ (E.e0 : Int)
    · rw [if_pos h1]
      have hst : mstep E st (s.getD a 0) = .ok { st with place := 1, count := 1 } := by
        rw [step0 hp, G.dg, if_neg (by omega), if_neg (by omega), if_neg (by omega), if_neg (by omega)]
      have hr : mrun E st (s.drop a) a = mrun E { st with place := 1, count := 1 } (s.drop (a + 1)) (a + 1) := by
        rw [drop_at ha, run_on hst (by simp)]
      have ih := ext_run G s (s.length - a) (a + 1) 1 { st with place := 1, count := 1 } (by omega) (by omega) rfl rfl
      cases hq : extL (s.length - a) s (E.e0 : Int) (a + 1) (1 + 1) with
      | error x =>
        rw [hq] at ih
        exact EndsSo.of hr ih
      | ok x =>
        obtain ⟨u, a2⟩ := x
        rw [hq] at ih
        obtain ⟨l1, l2, k, l3⟩ := ih
        have he := end_run (E := E) (s := s) (a := a2) (st := { st with place := 1, count := k }) l1 (by rw [step1 rfl, if_pos rfl]) (fun _ hne => by rw [step1 rfl, if_neg hne, G.tx, if_pos l2])
        dsimp only
        cases hq2 : endM s a2 with
        | error x =>
          rw [hq2] at he
          exact EndsSo.of (hr.trans l3) he
        | ok x =>
          obtain ⟨u, a3⟩ := x
          rw [hq2] at he
          exact ⟨he.1, k, (hr.trans l3).trans he.2⟩
    · rw [if_neg h1]
      exact EndsSo.err ha (by rw [step0 hp, G.dg, if_neg (by omega), if_neg (by omega), if_neg (by omega), if_pos (by omega)])
  · rw [if_neg h59]
    have he := end_run (s := s) (a := a) (st := st) (Nat.le_of_lt ha) h13 (fun _ hne => by rw [step0 hp, G.dg, if_neg (by omega), if_pos (.inr ⟨h59, hne⟩)])
    dsimp only
    cases hq2 : endM s a with
    | error x =>
      rw [hq2] at he
      exact he
    | ok x =>
      obtain ⟨u, a3⟩ := x
      rw [hq2] at he
      exact ⟨he.1, st.count, he.2⟩
theorem tail_run {s : List Int} {a : Nat} {st : MSt β} (ha : a ≤ s.length) (hp : st.place = 4) :
    match endM s a with
    | .error x => EndsSo E st s a x st.data
    | .ok (_, a3) => a3 ≤ s.length ∧ mrun E st (s.drop a) a = mrun E { st with place := 0, count := 0 } (s.drop a3) a3 := by
  unfold endM byteM
  by_cases h : a < s.length
  · rw [if_pos h]
    by_cases hc : s.getD a 0 = 13
    · rw [if_pos hc]
      dsimp only
      have hr : mrun E st (s.drop a) a = mrun E { st with place := 5 } (s.drop (a + 1)) (a + 1) := by
        rw [drop_at h, hc, run_on (by rw [step4 hp, if_neg (by simp)]) (by simp)]
      by_cases h1 : a + 1 < s.length
      · rw [if_pos h1]
        by_cases hc1 : s.getD (a + 1) 0 = 10
        · rw [if_pos hc1]
          refine ⟨by omega, ?_⟩
          rw [hr, drop_at h1, hc1, run_on (x := { st with place := 0, count := 0 }) (by rw [step5 rfl, if_neg (by simp)]) (by simp)]
        · rw [if_neg hc1]
          exact EndsSo.of hr (EndsSo.err (st := { st with place := 5 }) h1 (by rw [step5 rfl, if_pos hc1]))
      · rw [if_neg h1]
        exact EndsSo.of hr (EndsSo.more (st := { st with place := 5 }) h1 (by omega))
    · rw [if_neg hc]
      exact EndsSo.err h (by rw [step4 hp, if_pos hc])
  · rw [if_neg h]
    exact EndsSo.more h ha
theorem chunk_run (G : Good E) (s : List Int) (a : Nat) (st : MSt β) (ha : a ≤ s.length) (hp : st.place = 0) (hn : st.n = 0) (hc : st.count = 0) :
    match chunkM s (E.e0 : Int) a with
    | (.error x, d) => EndsSo E st s a x (st.data ++ d)
    | (.ok (true, a1), d) => a1 ≤ s.length ∧ mrun E st (s.drop a) a = mrun E { st with data := st.data ++ d } (s.drop a1) a1
    | (.ok (false, a1), d) => a1 ≤ s.length ∧ d = [] ∧ ∃ k, mrun E st (s.drop a) a = mrun E { st with place := 6, count := k } (s.drop a1) a1 := by
  have h1 := size_run G s (s.length - a + 1) a 0 0 st (by omega) ha (by omega) hp hn hc
  unfold chunkM sizeM
  cases hq1 : sizeL (s.length - a + 1) s a 0 0 with
  | error x =>
    rw [hq1] at h1
    dsimp only at h1 ⊢
    rw [List.append_nil]
    exact h1
  | ok x =>
    obtain ⟨m, a1⟩ := x
    rw [hq1] at h1
    obtain ⟨g', l1, l2, l3, l4⟩ := h1
    have h2 := sized_run G s a1 { st with n := m, count := g' } l2 l3 hp l1
    dsimp only
    cases hq2 : extM s (E.e0 : Int) a1 with
    | error x =>
      rw [hq2] at h2
      dsimp only at h2 ⊢
      rw [List.append_nil]
      exact EndsSo.of l4 h2
    | ok x =>
      obtain ⟨u, a2⟩ := x
      rw [hq2] at h2
      dsimp only at h2 ⊢
      cases hq3 : endM s a2 with
      | error x =>
        rw [hq3] at h2
        dsimp only at h2 ⊢
        rw [List.append_nil]
        exact EndsSo.of l4 h2
      | ok x =>
        obtain ⟨u, a3⟩ := x
        rw [hq3] at h2
        dsimp only at h2 ⊢
        obtain ⟨l5, k, l6⟩ := h2
        by_cases hm : m = 0
        · rw [if_pos hm]
          subst hm
          refine ⟨l5, rfl, k, ?_⟩
          rw [l4, l6, if_neg (by omega), hn]
        · rw [if_neg hm]
          rw [if_pos (by omega)] at l6
          obtain ⟨m', rfl⟩ : ∃ q, m = q + 1 := ⟨m - 1, by omega⟩
          have hd := run_data (E := E) m' (s.drop a3) a3 { st with place := 3, n := m' + 1, count := k } rfl rfl
          rw [List.length_drop] at hd
          by_cases hle : m' + 1 ≤ s.length - a3
          · rw [if_pos hle] at hd ⊢
            rw [List.drop_drop] at hd
            unfold tailM
            have ht := tail_run (E := E) (s := s) (a := a3 + (m' + 1)) (st := { st with place := 4, n := 0, count := k, data := st.data ++ (s.drop a3).take (m' + 1) }) (by omega) rfl
            have hL : (s.take (a3 + (m' + 1))).drop a3 = (s.drop a3).take (m' + 1) := by
              rw [List.drop_take]
              congr 1
              omega
            cases hq4 : endM s (a3 + (m' + 1)) with
            | error x =>
              rw [hq4] at ht
              dsimp only
              rw [hL]
              exact EndsSo.of (l4.trans (l6.trans hd)) ht
            | ok x =>
              obtain ⟨u, a4⟩ := x
              rw [hq4] at ht
              dsimp only
              rw [hL]
              refine ⟨ht.1, (l4.trans (l6.trans hd)).trans (ht.2.trans ?_)⟩
              cases st
              simp only at hp hn hc ⊢
              subst hp hn hc
              rfl
          · rw [if_neg hle] at hd ⊢
            refine ⟨_, (l4.trans (l6.trans hd)).trans (Prod.ext rfl (Prod.ext (?_ : a3 + (s.length - a3) = s.length) rfl)), rfl⟩
            omega
theorem chunks_run (G : Good E) (s : List Int) : ∀ (f a : Nat) (st : MSt β), s.length - a < f → a ≤ s.length → st.place = 0 → st.n = 0 → st.count = 0 →
    (∀ (q : Nat) (x : Bool) (a1 : Nat), q ≤ s.length → (chunkM s (E.e0 : Int) q).1 = .ok (x, a1) → q < a1) →
    match chunksM f s (E.e0 : Int) a st.data with
    | (.error x, D) => EndsSo E st s a x D
    | (.ok (_, a1), D) => a1 ≤ s.length ∧ ∃ k, mrun E st (s.drop a) a = mrun E { st with place := 6, count := k, data := D } (s.drop a1) a1
  | 0, a, st, hf, _, _, _, _, _ => by omega
  | f + 1, a, st, hf, ha, hp, hn, hc, hgt => by
    have h := chunk_run G s a st ha hp hn hc
    have hg := fun x a1 => hgt a x a1 ha
    rw [chunksM]
    generalize chunkM s (E.e0 : Int) a = q at *
    obtain ⟨m, d⟩ := q
    rcases m with x | ⟨x, a1⟩
    · exact h
    · cases x with
      | true =>
        have hlt := hg true a1 rfl
        have ih := chunks_run G s f a1 { st with data := st.data ++ d } (by omega) h.1 hp hn hc hgt
        dsimp only at ih ⊢
        generalize chunksM f s (E.e0 : Int) a1 (st.data ++ d) = r at *
        obtain ⟨m2, D⟩ := r
        rcases m2 with x | ⟨x, a2⟩
        · exact EndsSo.of h.2 ih
        · obtain ⟨l1, k, l2⟩ := ih
          exact ⟨l1, k, h.2.trans l2⟩
      | false =>
        obtain ⟨l1, l2, k, l3⟩ := h
        subst l2
        dsimp only
        rw [List.append_nil]
        exact ⟨l1, k, l3⟩
end
end Go.Proofs.YtmmbpbgcobmifaaGreatDoorH
end
section
namespace Go.Proofs.YtmmbpbgcobmifaaGreatDoorH
open Go Go.RowKit Go.Shelf Go.Proofs.YtmmbpbgcobmifaaGreatDoorW.PrintWords Go.Proofs.YtmmbpbgcobmifaaGreatDoorW.PrintLast Go.Proofs.YtmmbpbgcobmifaaGreatDoorW.PrintMore Go.Proofs.YtmmbpbgcobmifaaGreatDoorM
attribute [local go_sem] Oper.semAt_some
theorem indexByte_C (P : Program) (w : World) (ad : Addr) (c : Nat) (xs : List Int) (h : ∀ j x, xs[j]? = some x → w.cell? (ad.add j) = some (.int .u8 x)) (cv : Int) :
    (Extern.BytealgIndexByte.indexByte #[.slice (some ad) xs.length c, .int .u8 cv]).run P w = .ok (.int .i64 (Lib.indexByte (Lib.bytesOf xs) cv.toNat.toUInt8)) w := by
  have hl := Lib.run_loadBytesX (P := P) w xs ad .empty h
  have hs := Lib.run_indexByteString (P := P) ⟨(Lib.bytesOf xs).toArray⟩ cv w
  have he : (⟨ByteArray.empty.data ++ (Lib.bytesOf xs).toArray⟩ : ByteArray) = ⟨(Lib.bytesOf xs).toArray⟩ := by
    apply ByteArray.ext
    show (#[] : Array UInt8) ++ (Lib.bytesOf xs).toArray = (Lib.bytesOf xs).toArray
    simp
  rw [he] at hl
  change Sem.run P (do
    let b ← Extern.Bytes.bytesOf (.slice (some ad) xs.length c)
    let c ← Extern.Bytes.asByte (.int .u8 cv)
    match (List.range b.size).find? fun i => b[i]! == c with
    | some i => pure (goInt i)
    | none => pure (goInt (-1))) w = _
  change Sem.run P (do
    let b ← Extern.Bytes.bytesOf (.string ⟨(Lib.bytesOf xs).toArray⟩)
    let c ← Extern.Bytes.asByte (.int .u8 cv)
    match (List.range b.size).find? fun i => b[i]! == c with
    | some i => pure (goInt i)
    | none => pure (goInt (-1))) w = _ at hs
  simp only [Extern.Bytes.bytesOf, Sem.run_bind, Sem.run_pure, hl, Result.andThen] at hs ⊢
  exact hs
theorem C_u8 {w : World} {A : Option Addr} {n : Nat} {xs : List Int} (h : Kd.C (Kd.int .u8) w A n xs) (hp : 0 < n) : ∃ ad, A = some ad ∧ n = xs.length ∧ ∀ j x, xs[j]? = some x → w.cell? (ad.add j) = some (.int .u8 x) := by
  obtain ⟨h1, _, h3⟩ := h
  obtain ⟨ad, e, hc⟩ := h3 hp
  refine ⟨ad, e, h1.symm, fun j x hj => ?_⟩
  obtain ⟨cs, _, hK, hcs⟩ := hc j x hj
  have hK : cs = [.int .u8 x] := hK
  have := hcs 0 (.int .u8 x) (by rw [hK]; rfl)
  rwa [show j * (Kd.int .u8).sz + 0 = j by show j * 1 + 0 = j; omega] at this
theorem C_lies {K : Nat → Prop} {w W : World} {A : Option Addr} {n : Nat} {xs : List Int} (h : Kd.C (Kd.int .u8) w A n xs) (hl : Lies K w W) (hK : ∀ k, k < w.heap.size → K k) : Kd.C (Kd.int .u8) W A n xs := by
  refine ⟨h.1, h.2.1, fun hp => ?_⟩
  obtain ⟨ad, e, hc⟩ := h.2.2 hp
  refine ⟨ad, e, fun j p hj => ?_⟩
  obtain ⟨cs, h1, h2, h3⟩ := hc j p hj
  exact ⟨cs, h1, h2, fun i u hu => hl.cell (hK _ (World.block_lt_of_cell? _ _ (h3 i u hu))) (h3 i u hu)⟩
set_option maxRecDepth 100000 in
theorem bytesIndexByte_calls (w : World) (A : Option Addr) (n c : Nat) (xs : List Int) (h : Kd.C (Kd.int .u8) w A n xs) (hp : 0 < n) (cv : Int) :
    Calls Tryz.prog 82 #[.slice A n c, .int .u8 cv] w fun e w' => e = .returned (.int .i64 (Lib.indexByte (Lib.bytesOf xs) cv.toNat.toUInt8)) ∧ w' = w := by
  obtain ⟨ad, rfl, rfl, hc⟩ := C_u8 h hp
  go_enter Tryz.func82, Tryz.ntmps82
  go_wp2
  rw [run_callFunc_extern Tryz.func96 (by kernel_rfl) (by kernel_rfl) (by kernel_rfl) (e := Extern.BytealgIndexByte.indexByte) (by kernel_rfl), indexByte_C Tryz.prog w ad c xs hc cv]
  simp only [Result.andThen]
  rw [Oper.upon_value]
  go_wp2
  go_ret
  exact ⟨rfl, rfl⟩
theorem index_lf : ∀ (xs : List Int), (∀ x ∈ xs, 0 ≤ x ∧ x ≤ 255) →
    (Lib.indexByte (Lib.bytesOf xs) 10 = -1 ∧ lfLine xs = (xs, [])) ∨ ∃ i : Nat, Lib.indexByte (Lib.bytesOf xs) 10 = (i : Int) ∧ i < xs.length ∧ lfLine xs = (xs.take (i + 1), xs.drop (i + 1))
  | [], _ => .inl ⟨rfl, rfl⟩
  | c :: r, hb => by
    have hc := hb c List.mem_cons_self
    have ih := index_lf r (fun x hx => hb x (List.mem_cons_of_mem _ hx))
    have e : Lib.bytesOf (c :: r) = UInt8.ofNat c.toNat :: Lib.bytesOf r := rfl
    rw [e, Lib.indexByte, lfLine]
    by_cases h10 : c = 10
    · subst h10
      refine .inr ⟨0, ?_, by simp, by simp⟩
      rw [if_pos (by decide)]
      rfl
    · have hne : (UInt8.ofNat c.toNat == 10) = false := by
        rw [beq_eq_false_iff_ne]
        intro h
        have := congrArg UInt8.toNat h
        rw [UInt8.toNat_ofNat'] at this
        have h2 : (10 : UInt8).toNat = 10 := rfl
        omega
      rw [hne, if_neg (by simp), if_neg h10]
      rcases ih with ⟨h1, h2⟩ | ⟨i, h1, h2, h3⟩
      · left
        rw [h1, h2, if_pos (by decide)]
        exact ⟨rfl, rfl⟩
      · right
        refine ⟨i + 1, ?_, by simp only [List.length_cons]; omega, ?_⟩
        · rw [h1, if_neg (by rw [beq_iff_eq]; omega)]
          omega
        · rw [h3]; rfl
theorem bytesLines_calls (A : Option Addr) (n c : Nat) (w : World) :
    Calls Tryz.prog 65 #[.slice A n c] w fun e w' => e = .returned (.func (.func 81) #[] #[.pointer (some ⟨w.heap.size, 0, none⟩)]) ∧ w' = w.alloc (.cells #[.slice A n c] 25) := by
  go_enter Tryz.func65, Tryz.ntmps65
  go_wp2
  go_ret
  exact ⟨rfl, rfl⟩
def From (A : Option Addr) (r : List Int) (x : Option Addr × List Int) : Prop := ∀ W, Kd.C (Kd.int .u8) W A r.length r → Kd.C (Kd.int .u8) W x.1 x.2.length x.2
def encB (x : Option Addr × List Int) : Array Value := #[.slice x.1 x.2.length x.2.length]
def lenOf (W : World) (b : Nat) : Nat := match W.cell? ⟨b, 0, none⟩ with | some (.slice _ n _) => n | _ => 0
theorem lenOf_box {W : World} {b : Nat} {t : TypeId} {A : Option Addr} {n c : Nat} (h : Boxed W b t (.slice A n c)) : lenOf W b = n := by
  unfold lenOf
  rw [h.cell]
def Kz1 (n b : Nat) (k : Nat) : Prop := k < n ∨ k = b
def SpB (A : Option Addr) (r : List Int) (pre : List (Option Addr × List Int)) : Prop := pre.map Prod.snd <+: linesB r ∧ ∀ x ∈ pre, From A r x
set_option maxRecDepth 100000 in
set_option maxHeartbeats 4000000 in
theorem blines_own (n : Nat) (hn : 1 ≤ n) (Bs : Nat) (A : Option Addr) (c : Nat) (r : List Int) (hr : ∀ x ∈ r, 0 ≤ x ∧ x ≤ 255) (hrl : r.length ≤ 1073741824) (hrc : r.length ≤ c) (w : World) (hC : Kd.C (Kd.int .u8) w A r.length r) (W0 : World) (hw0 : Lies (fun k => k < w.heap.size) w W0)
    (hb0 : Boxed W0 Bs 25 (.slice A r.length c)) (hBs : w.heap.size ≤ Bs) :
    SeqO Fence.wide n Tryz.prog 81 #[.pointer (some ⟨Bs, 0, none⟩)] encB (Kz1 w.heap.size Bs) (fun k => k = Bs) (fun ys => ys.map Prod.snd = linesB r ∧ ∀ x ∈ ys, From A r x) (SpB A r) W0 := by
  intro l J Jx g0 W hW hJ hJx hg0 hY h0
  have hmx : Tryz.prog.follows .mixedOrders = true := by kernel_rfl
  have hw1 : Lies (fun k => k < w.heap.size) w W := hw0.trans (Lies.below hW)
  have hb : Boxed W Bs 25 (.slice A r.length c) := (hW.block _ hb0.lt).trans hb0
  have l2 := hb.lt
  have l4 := hw1.size
  clear hW hb0 hw0
  have HC := Aside0.mk hC
  have HR := Aside0.mk hr
  have HF0 : From A r (A, r) := fun _ h => h
  clear hC hr
  refine callsIn_of_wp Tryz.func81 rfl trivial ?_ rfl
  simp only [Tryz.ntmps81, List.size_toArray, List.length_cons, List.length_nil, Nat.reduceAdd, Nat.reduceSub, Array.replicate_succ, Array.replicate_zero, List.push_toArray, List.append_toArray, List.nil_append, List.cons_append]
  gi_wp2
  gi_loopw [3] (fun v3 wr => ∃ (A' : Option Addr) (c' : Nat) (t : List Int) (pre : List (Option Addr × List Int)) (g : Option Nat), t.length ≤ r.length ∧ t.length ≤ c' ∧ Aside0 (∀ x ∈ t, 0 ≤ x ∧ x ≤ 255) ∧ Aside0 (From A r (A', t)) ∧ Aside0 (∀ x ∈ pre, From A r x) ∧ Aside0 (linesB r = pre.map Prod.snd ++ linesB t) ∧ Aside0 (J pre g wr) ∧ Aside0 (∀ q, g = some q → ¬ Kz1 w.heap.size Bs q) ∧ Aside0 (Lies (fun k => k < w.heap.size) W wr) ∧ Aside0 (Boxed wr Bs 25 (.slice A' t.length c')))
    (fun _ wr => lenOf wr Bs)
  case atStart => exact ⟨A, c, r, [], g0, Nat.le_refl _, hrc, HR, ⟨HF0⟩, ⟨fun x hx => absurd hx List.not_mem_nil⟩, ⟨rfl⟩, ⟨h0⟩, ⟨fun q e => (hg0 q e).1⟩, ⟨Lies.refl _ _⟩, ⟨hb⟩⟩
  case round =>
    obtain ⟨A', c', t, pre, g, htl, htc, htb, hfr, hpf, hE, hJs, hgq, hnx, hbx⟩ := hrel
    have hcs := hbx.out.cell
    by_cases hlt : 0 < t.length
    · have hCt := hfr.out wr (C_lies HC.out (hw1.trans hnx.out) (fun k hk => hk))
      have HCI := Aside0.mk (bytesIndexByte_calls wr A' t.length c' t hCt hlt 10)
      have hlt' : (0 : Int) < (t.length : Int) := by omega
      rw [show (10 : Int).toNat.toUInt8 = 10 from rfl] at HCI
      have hix := index_lf t htb.out
      generalize Lib.indexByte (Lib.bytesOf t) 10 = q at *
      have ht0 : t ≠ [] := by rintro rfl; simp at hlt
      have hlc := linesB_cons t ht0
      clear hCt
      have htu : Tryz.prog.underlying 25 = some (.slice 5) := Tryz.underlying25
      have hq : (Tryz.prog.info? 5).map (fun i => i.size) = some 1 := by kernel_rfl
      obtain ⟨ii, hii, hisz⟩ := Option.map_eq_some_iff.1 hq
      have hel : Tryz.prog.elem 25 = 5 := by simp [Program.elem, htu]
      have hu : Tryz.prog.underlying 25 = some (.slice (Tryz.prog.elem 25)) := by rw [hel]; exact htu
      rcases hix with ⟨rfl, hlf⟩ | ⟨i, rfl, hil, hlf⟩
      · rw [hlf] at hlc
        have HE2 := Aside0.mk (show linesB r = (pre ++ [(A', t)]).map Prod.snd ++ linesB [] by rw [hE.out, hlc, List.map_append, List.append_assoc]; rfl)
        have hs3 : ∀ W : World, (Instr.slice 25 (.slice A' t.length c') none (some (.int .i64 (t.length : Int))) (some (.int .i64 (t.length : Int)))).run Tryz.prog W = .ok (.slice A' t.length t.length) W := fun W => by
          rw [run_slice_hm W 25 A' t.length c' hu .i64 .i64 (t.length : Int) (t.length : Int) (by omega) (Int.le_refl _) (by omega), hel]
          simp only [Int.toNat_natCast]
          have ha : (A'.map fun x => x.add 0) = A' := by cases A' <;> simp [Addr.add]
          simp [sizeOf, typeInfo, hii, sliced, Result.andThen, ha]
        obtain ⟨W2, hW2⟩ : ∃ W2, wr.setCell ⟨Bs, 0, none⟩ (.slice none 0 0) = W2 := ⟨_, rfl⟩
        have hg2 : wr.grownBy W2 (some Bs) := by rw [← hW2]; exact grownBy_setCell' wr Bs _
        have hJ2 : J pre g W2 := hJ _ _ _ _ _ hJs.out hg2 (fun q e => .inr (by cases e; rfl))
        have HB2 := Aside0.mk (show Boxed W2 Bs 25 (.slice none ([] : List Int).length 0) by rw [← hW2]; exact hbx.out.set _)
        have HL2 := Aside0.mk (show Lies (fun k => k < w.heap.size) W W2 from hnx.out.trans (Lies.grown hg2 (fun q e h => by cases e; omega)))
        have HSP := Aside0.mk (show SpB A r (pre ++ [(A', t)]) from ⟨by rw [HE2.out]; exact ⟨[], by simp [linesB]⟩, fun y hy => by
          rcases List.mem_append.1 hy with hy | hy
          · exact hpf.out y hy
          · rcases List.mem_singleton.1 hy with rfl
            exact hfr.out⟩)
        obtain ⟨fn, tmps, assign, body, hy, hR⟩ := hY (n - 1) pre (A', t) g W2 hJ2 HSP.out
        dsimp only [encB] at hy
        have HHW2 := Aside0.mk hW2
        have hcf := hbx.out.frozen
        rw [← hW2] at hy hR
        have HR3 := Aside0.mk hR
        have HLS := Aside0.mk (fun (g' : Option Nat) (W3 : World) (h : Spares (fun k => W.heap.size ≤ k ∨ Kz1 w.heap.size Bs k) g g' W2 W3) =>
          show Lies (fun k => k < w.heap.size ∨ k = Bs) W2 W3 from h.lies (fun k hk _ => ⟨.inr hk, fun e => hgq.out k e.symm hk⟩))
        have HGS := Aside0.mk (fun (g' : Option Nat) (W3 : World) (h : Spares (fun k => W.heap.size ≤ k ∨ Kz1 w.heap.size Bs k) g g' W2 W3) =>
          show ∀ q, g' = some q → ¬ Kz1 w.heap.size Bs q from h.not (fun k hk => by have := HL2.out.size; unfold Kz1 at hk; rcases hk with hk | hk <;> omega) hgq.out)
        clear hR hJ2
        clear hlf hlc hW2 hg2
        gi_wp2
        refine ⟨trivial, ?_⟩
        refine (callsIn_wide.2 HCI.out).mono ?_
        rintro e w1 ⟨rfl, rfl⟩
        gi_wp2
        refine HR3.out.mono ?_
        rintro e W3 ⟨g', hsp, (⟨rfl, hJ3⟩ | ⟨rfl, hJx3⟩)⟩
        · have HJ3 := Aside0.mk hJ3
          rw [HHW2.out] at hsp
          have HS3 := Aside0.mk hsp
          clear hJ3 hsp
          have hl3 := HLS.out g' W3 HS3.out
          have HL3 := Aside0.mk (HL2.out.trans (hl3.imp (K' := fun k => k < w.heap.size) (fun k h => .inl h)))
          have HB3 := Aside0.mk (hl3.box (.inr rfl) HB2.out)
          have HZ := Aside0.mk (lenOf_box hbx.out)
          have HZ3 := Aside0.mk (lenOf_box HB3.out)
          clear hl3
          gi_wp2
          go_roundw
          case rel => exact ⟨none, 0, [], pre ++ [(A', t)], g', Nat.zero_le _, Nat.le_refl _, ⟨fun x hx => absurd hx List.not_mem_nil⟩, ⟨fun W _ => Kd.C_nil _ _⟩, ⟨HSP.out.2⟩, HE2, HJ3, ⟨HGS.out g' W3 HS3.out⟩, HL3, HB3⟩
          case measure => first | (rw [HZ.out, HZ3.out]; exact hlt) | (simp only [HZ.out, HZ3.out]; exact hlt)
        · gi_wp2
          refine bodyPost_ret (results_none rfl _ _ _) rfl ?_
          exact ⟨⟨_, rfl⟩, .inr ⟨_, g', HSP.out, hJx3⟩⟩
      · rw [hlf] at hlc
        dsimp only at hlc
        have hlen : (t.take (i + 1)).length = i + 1 := by rw [List.length_take]; omega
        have hdl : (t.drop (i + 1)).length = t.length - (i + 1) := List.length_drop
        have HE2 := Aside0.mk (show linesB r = (pre ++ [(A', t.take (i + 1))]).map Prod.snd ++ linesB (t.drop (i + 1)) by rw [hE.out, hlc, List.map_append, List.append_assoc]; rfl)
        have hs1 : ∀ W : World, (Instr.slice 25 (.slice A' t.length c') none (some (.int .i64 ((i : Int) + 1))) none).run Tryz.prog W = .ok (.slice A' (i + 1) c') W := fun W => by
          have := cut_to (P := Tryz.prog) 25 5 .i64 htu hii A' t.length c' ((i : Int) + 1) (by omega) (by omega) htc W
          rw [show ((i : Int) + 1).toNat = i + 1 by omega] at this
          exact this
        obtain ⟨A2, hA2⟩ : ∃ A2, (if c' = i + 1 then A' else A'.map (·.add ((i + 1) * 1))) = A2 := ⟨_, rfl⟩
        have hs2 : ∀ W : World, (Instr.slice 25 (.slice A' t.length c') (some (.int .i64 ((i : Int) + 1))) none none).run Tryz.prog W = .ok (.slice A2 (t.length - (i + 1)) (c' - (i + 1))) W := fun W => by
          have := cut_from (P := Tryz.prog) 25 5 .i64 htu hii 1 hisz A' t.length c' ((i : Int) + 1) (by omega) (by omega) W
          rw [show ((i : Int) + 1).toNat = i + 1 by omega, hA2] at this
          exact this
        have HF2 := Aside0.mk (show From A r (A2, t.drop (i + 1)) from fun W hW => by
          have := Kd.C_drop (m := i + 1) (c := c') (hfr.out W hW) (by dsimp only; omega) htc
          rw [← hA2]
          exact this)
        have HF1 := Aside0.mk (show From A r (A', t.take (i + 1)) from fun W hW => by
          have := Kd.C_take (m := i + 1) (hfr.out W hW) (by dsimp only; omega)
          exact this)
        have hs3 : ∀ W : World, (Instr.slice 25 (.slice A' (i + 1) c') none (some (.int .i64 ((i : Int) + 1))) (some (.int .i64 ((i : Int) + 1)))).run Tryz.prog W = .ok (.slice A' (i + 1) (i + 1)) W := fun W => by
          rw [run_slice_hm W 25 A' (i + 1) c' hu .i64 .i64 ((i : Int) + 1) ((i : Int) + 1) (by omega) (Int.le_refl _) (by omega), hel]
          rw [show ((i : Int) + 1).toNat = i + 1 by omega]
          have ha : (A'.map fun x => x.add 0) = A' := by cases A' <;> simp [Addr.add]
          simp [sizeOf, typeInfo, hii, sliced, Result.andThen, ha]
        obtain ⟨W2, hW2⟩ : ∃ W2, (wr.setCell ⟨Bs, 0, none⟩ (.slice A2 (t.length - (i + 1)) (c' - (i + 1)))).drew = W2 := ⟨_, rfl⟩
        have hg1 : wr.grownBy (wr.setCell ⟨Bs, 0, none⟩ (.slice A2 (t.length - (i + 1)) (c' - (i + 1)))) (some Bs) := grownBy_setCell' wr Bs _
        have hg2 : (wr.setCell ⟨Bs, 0, none⟩ (.slice A2 (t.length - (i + 1)) (c' - (i + 1)))).grownBy W2 none := by rw [← hW2]; exact ⟨rfl, rfl, rfl, Nat.le_refl _, fun _ _ _ => rfl⟩
        have hJ2 : J pre g W2 := hJ.step (hJ _ _ _ _ _ hJs.out hg1 (fun q e => .inr (by cases e; rfl))) hg2
        have HB2 := Aside0.mk (show Boxed W2 Bs 25 (.slice A2 (t.drop (i + 1)).length (c' - (i + 1))) by rw [← hW2, hdl]; exact (hbx.out.set (.slice A2 (t.length - (i + 1)) (c' - (i + 1))) : Boxed (wr.setCell ⟨Bs, 0, none⟩ (.slice A2 (t.length - (i + 1)) (c' - (i + 1)))) Bs 25 _))
        have HL2 := Aside0.mk (show Lies (fun k => k < w.heap.size) W W2 from hnx.out.trans ((Lies.grown hg1 (fun q e h => by cases e; omega)).trans (Lies.grown hg2 (fun q e => by cases e))))
        have HSP := Aside0.mk (show SpB A r (pre ++ [(A', t.take (i + 1))]) from ⟨by rw [HE2.out]; exact ⟨_, rfl⟩, fun y hy => by
          rcases List.mem_append.1 hy with hy | hy
          · exact hpf.out y hy
          · rcases List.mem_singleton.1 hy with rfl
            exact HF1.out⟩)
        obtain ⟨fn, tmps, assign, body, hy, hR⟩ := hY (n - 1) pre (A', t.take (i + 1)) g W2 hJ2 HSP.out
        dsimp only [encB] at hy
        rw [hlen] at hy
        have HHW2 := Aside0.mk hW2
        have hcf := hbx.out.frozen
        rw [← hW2] at hy hR
        have HR3 := Aside0.mk hR
        have HLS := Aside0.mk (fun (g' : Option Nat) (W3 : World) (h : Spares (fun k => W.heap.size ≤ k ∨ Kz1 w.heap.size Bs k) g g' W2 W3) =>
          show Lies (fun k => k < w.heap.size ∨ k = Bs) W2 W3 from h.lies (fun k hk _ => ⟨.inr hk, fun e => hgq.out k e.symm hk⟩))
        have HGS := Aside0.mk (fun (g' : Option Nat) (W3 : World) (h : Spares (fun k => W.heap.size ≤ k ∨ Kz1 w.heap.size Bs k) g g' W2 W3) =>
          show ∀ q, g' = some q → ¬ Kz1 w.heap.size Bs q from h.not (fun k hk => by have := HL2.out.size; unfold Kz1 at hk; rcases hk with hk | hk <;> omega) hgq.out)
        clear hR hJ2
        clear hlf hlc hW2 hg2 hg1 hA2
        have hge : (0 : Int) ≤ (i : Int) := by omega
        have hwr : IntKind.i64.wrap ((i : Int) + 1) = (i : Int) + 1 := by
          unfold IntKind.wrap
          simp [IntKind.bits, IntKind.signed]
          omega
        gi_wp2
        refine ⟨trivial, ?_⟩
        refine (callsIn_wide.2 HCI.out).mono ?_
        rintro e w1 ⟨rfl, rfl⟩
        gi_wp2
        gi_region_with_o (fail)
        all_goals
          gi_wp2
          refine HR3.out.mono ?_
          rintro e W3 ⟨g', hsp, (⟨rfl, hJ3⟩ | ⟨rfl, hJx3⟩)⟩
          · have HJ3 := Aside0.mk hJ3
            rw [HHW2.out] at hsp
            have HS3 := Aside0.mk hsp
            clear hJ3 hsp
            have hl3 := HLS.out g' W3 HS3.out
            have HL3 := Aside0.mk (HL2.out.trans (hl3.imp (K' := fun k => k < w.heap.size) (fun k h => .inl h)))
            have HB3 := Aside0.mk (hl3.box (.inr rfl) HB2.out)
            have HZ := Aside0.mk (lenOf_box hbx.out)
            have HZ3 := Aside0.mk (lenOf_box HB3.out)
            clear hl3
            gi_wp2
            go_roundw
            case rel => exact ⟨A2, c' - (i + 1), t.drop (i + 1), pre ++ [(A', t.take (i + 1))], g', by rw [hdl]; omega, by rw [hdl]; omega, ⟨fun x hx => htb.out x (List.mem_of_mem_drop hx)⟩, HF2, ⟨HSP.out.2⟩, HE2, HJ3, ⟨HGS.out g' W3 HS3.out⟩, HL3, HB3⟩
            case measure => first | (rw [HZ.out, HZ3.out, hdl]; omega) | (simp only [HZ.out, HZ3.out, hdl]; omega)
          · gi_wp2
            refine bodyPost_ret (results_none rfl _ _ _) rfl ?_
            exact ⟨⟨_, rfl⟩, .inr ⟨_, g', HSP.out, hJx3⟩⟩
    · have ht0 : t = [] := List.eq_nil_of_length_eq_zero (by omega)
      subst ht0
      have hlt' : ¬ (0 : Int) < (([] : List Int).length : Int) := by simp
      have HE2 := Aside0.mk (show linesB r = pre.map Prod.snd by rw [hE.out]; simp [linesB])
      gi_wp2
      go_end0
      exact ⟨⟨_, rfl⟩, .inl ⟨pre, ⟨HE2.out.symm, fun a b hab => hpf.out (a, b) hab⟩, g, hJs.out⟩⟩
end Go.Proofs.YtmmbpbgcobmifaaGreatDoorH
end
section
namespace Go.Proofs.YtmmbpbgcobmifaaGreatDoorH
open Go Go.RowKit Go.Shelf Go.Proofs.YtmmbpbgcobmifaaGreatDoorW.PrintWords Go.Proofs.YtmmbpbgcobmifaaGreatDoorW.PrintLast Go.Proofs.YtmmbpbgcobmifaaGreatDoorW.PrintMore Go.Proofs.YtmmbpbgcobmifaaGreatDoorM
attribute [local go_sem] Oper.semAt_some
theorem linesB_flat : ∀ r : List Int, (linesB r).flatten = r
  | [] => rfl
  | c :: r => by
    have ih := linesB_flat r
    rw [linesB]
    by_cases hc : c = 10
    · rw [if_pos hc, List.flatten_cons, ih, hc]; rfl
    · rw [if_neg hc]
      cases h : linesB r with
      | nil => rw [h] at ih; rw [← ih]; rfl
      | cons l ls =>
        rw [h] at ih
        rw [← ih]; rfl
theorem linesB_ne : ∀ r : List Int, ∀ l ∈ linesB r, l ≠ []
  | [], l, h => absurd h List.not_mem_nil
  | c :: r, l, h => by
    have ih := linesB_ne r
    rw [linesB] at h
    by_cases hc : c = 10
    · rw [if_pos hc] at h
      rcases List.mem_cons.1 h with rfl | h
      · simp
      · exact ih l h
    · rw [if_neg hc] at h
      cases h2 : linesB r with
      | nil => rw [h2] at h; rcases List.mem_singleton.1 h with rfl; simp
      | cons l2 ls =>
        rw [h2] at h ih
        rcases List.mem_cons.1 h with rfl | h
        · simp
        · exact ih l (List.mem_cons_of_mem _ h)
def sumL (l : List (Option Addr × List Int)) : Nat := (l.map Prod.snd).flatten.length
theorem sumL_snoc (l : List (Option Addr × List Int)) (x : Option Addr × List Int) : sumL (l ++ [x]) = sumL l + x.2.length := by
  unfold sumL; simp
theorem sumL_le {r : List Int} {l : List (Option Addr × List Int)} (h : l.map Prod.snd <+: linesB r) : sumL l ≤ r.length := by
  obtain ⟨q, hq⟩ := h
  have := congrArg (fun z => (List.flatten z).length) hq
  simp only [List.flatten_append, List.length_append, linesB_flat] at this
  unfold sumL
  omega
theorem count_le : ∀ (l : List (List Int)), (∀ x ∈ l, x ≠ []) → l.length ≤ l.flatten.length
  | [], _ => Nat.le_refl _
  | x :: l, h => by
    have := count_le l (fun y hy => h y (List.mem_cons_of_mem _ hy))
    have := List.length_pos_iff.2 (h x List.mem_cons_self)
    simp only [List.length_cons, List.flatten_cons, List.length_append]
    omega
theorem pre_count {r : List Int} {l : List (Option Addr × List Int)} (h : l.map Prod.snd <+: linesB r) : l.length ≤ sumL l := by
  have := count_le (l.map Prod.snd) (fun x hx => linesB_ne r x (h.subset hx))
  rw [List.length_map] at this
  exact this
structure BeyI (w : World) (e0 e1 e2 : Int) (vr va vl vs : Int) (W : World) : Prop where
  r : Boxed W (w.heap.size + 1) 3 (.int .i64 vr)
  a : Boxed W (w.heap.size + 2) 3 (.int .i64 va)
  l : Boxed W (w.heap.size + 3) 3 (.int .i64 vl)
  s : Boxed W (w.heap.size + 4) 3 (.int .i64 vs)
  m : W.heap[w.heap.size]? = some (.cells #[.int .i64 e0, .int .i64 e1, .int .i64 e2] 46 (0, 0))
  b : Below w.heap.size w W
theorem BeyI.grown {w A C : World} {e0 e1 e2 vr va vl vs : Int} {row : Option Nat} (h : BeyI w e0 e1 e2 vr va vl vs A) (hg : A.grownBy C row) (hr : ∀ r, row = some r → w.heap.size + 5 ≤ r) : BeyI w e0 e1 e2 vr va vl vs C :=
  ⟨h.r.kept hg (fun e => by have := hr _ e.symm; omega), h.a.kept hg (fun e => by have := hr _ e.symm; omega), h.l.kept hg (fun e => by have := hr _ e.symm; omega), h.s.kept hg (fun e => by have := hr _ e.symm; omega),
    (hg.block _ (blk_lt h.m) (fun e => by have := hr _ e.symm; omega)).trans h.m, h.b.grown hg (Nat.le_of_lt (blk_lt h.m)) (fun k e => by have := hr _ e; omega)⟩
theorem BeyI.abd {α : Type} {w : World} {Z : Nat → Prop} {B : Nat} (e0 e1 e2 : Int) (vr va vl vs : α → Int) (hB : w.heap.size + 5 ≤ B) (hZ : ∀ r, Z r → w.heap.size + 5 ≤ r) : Abd Z B (fun (x : α) _ W => BeyI w e0 e1 e2 (vr x) (va x) (vl x) (vs x) W) :=
  fun _ _ _ _ _ hs hg hr => hs.grown hg (fun r e => (hr r e).elim (fun h => Nat.le_trans hB h.1) (hZ r))
theorem BeyI.setR {w W : World} {e0 e1 e2 vr va vl vs : Int} (h : BeyI w e0 e1 e2 vr va vl vs W) (v : Int) : BeyI w e0 e1 e2 v va vl vs (W.setCell ⟨w.heap.size + 1, 0, none⟩ (.int .i64 v)) :=
  ⟨h.r.set _, h.a.other (by omega) _, h.l.other (by omega) _, h.s.other (by omega) _, (Below.heap_setCell _ ⟨w.heap.size + 1, 0, none⟩ _ _ (by simp)).trans h.m, h.b.setCell (p := ⟨w.heap.size + 1, 0, none⟩) (by show w.heap.size ≤ w.heap.size + 1; omega) _⟩
theorem BeyI.setA {w W : World} {e0 e1 e2 vr va vl vs : Int} (h : BeyI w e0 e1 e2 vr va vl vs W) (v : Int) : BeyI w e0 e1 e2 vr v vl vs (W.setCell ⟨w.heap.size + 2, 0, none⟩ (.int .i64 v)) :=
  ⟨h.r.other (by omega) _, h.a.set _, h.l.other (by omega) _, h.s.other (by omega) _, (Below.heap_setCell _ ⟨w.heap.size + 2, 0, none⟩ _ _ (by simp)).trans h.m, h.b.setCell (p := ⟨w.heap.size + 2, 0, none⟩) (by show w.heap.size ≤ w.heap.size + 2; omega) _⟩
theorem BeyI.setL {w W : World} {e0 e1 e2 vr va vl vs : Int} (h : BeyI w e0 e1 e2 vr va vl vs W) (v : Int) : BeyI w e0 e1 e2 vr va v vs (W.setCell ⟨w.heap.size + 3, 0, none⟩ (.int .i64 v)) :=
  ⟨h.r.other (by omega) _, h.a.other (by omega) _, h.l.set _, h.s.other (by omega) _, (Below.heap_setCell _ ⟨w.heap.size + 3, 0, none⟩ _ _ (by simp)).trans h.m, h.b.setCell (p := ⟨w.heap.size + 3, 0, none⟩) (by show w.heap.size ≤ w.heap.size + 3; omega) _⟩
theorem BeyI.setS {w W : World} {e0 e1 e2 vr va vl vs : Int} (h : BeyI w e0 e1 e2 vr va vl vs W) (v : Int) : BeyI w e0 e1 e2 vr va vl v (W.setCell ⟨w.heap.size + 4, 0, none⟩ (.int .i64 v)) :=
  ⟨h.r.other (by omega) _, h.a.other (by omega) _, h.l.other (by omega) _, h.s.set _, (Below.heap_setCell _ ⟨w.heap.size + 4, 0, none⟩ _ _ (by simp)).trans h.m, h.b.setCell (p := ⟨w.heap.size + 4, 0, none⟩) (by show w.heap.size ≤ w.heap.size + 4; omega) _⟩
theorem spares_cell {w W2 W : World} (g : Option Nat) (j : Nat) (v : Value) (h1 : 1 ≤ j) (h4 : j ≤ 4) (hW2 : w.heap.size + 6 ≤ W2.heap.size) :
    Spares (fun k => W2.heap.size ≤ k ∨ Kz1 w.heap.size (w.heap.size + 5) k) g g W (W.setCell ⟨w.heap.size + j, 0, none⟩ v) :=
  Spares.turned (grownBy_setCell' W (w.heap.size + j) v) (fun r e hk => by cases e; unfold Kz1 at hk; omega)
theorem beyL_step {e1 e2 : Nat} {ln : List Int} {ls : List (List Int)} {z k : Nat} :
    beyL e1 e2 (ln :: ls) z k = if ln.getD 0 0 = 13 then -1 else if e1 < k + 1 then (z : Int) else if e2 < z + ln.length then (e2 : Int) else beyL e1 e2 ls (z + ln.length) (k + 1) := rfl
def Sofar (e1 e2 : Nat) (pre : List (Option Addr × List Int)) (v : List (List Int) → Int) : Prop := ∀ rest, beyL e1 e2 (pre.map Prod.snd ++ rest) 0 0 = v rest
theorem Sofar.snoc {e1 e2 : Nat} {pre : List (Option Addr × List Int)} {x : Option Addr × List Int} {v : List (List Int) → Int} {S P : Nat} (h : Sofar e1 e2 pre fun rest => beyL e1 e2 rest S P) (hv : ∀ rest, beyL e1 e2 (x.2 :: rest) S P = v rest) : Sofar e1 e2 (pre ++ [x]) v := fun rest => by
  rw [List.map_append, List.append_assoc]
  exact (h _).trans (hv rest)
theorem results_cellB {fn : Func} {p : Tmp} {ty : TypeId} (h : fn.results = #[.cell p ty]) (tmps : Array Value) (P : Program) (w : World) (a : Addr) (v : Value)
    (hp : tmps.getD p undef = .pointer (some a)) (hA : (isAgg ty).run P w = .ok false w) (hc : w.cell? a = some v) : (results fn tmps).run P w = .ok v w := by
  rw [Array.getD_eq_getD_getElem?] at hp
  simp only [results, h]
  simp [Sem.run_bind, Result.andThen, hp, loadVar, hA, asAddr, go_sem, hc]
theorem alloc_keep {w : World} {k : Nat} {o : Obj} (o' : Obj) (h : w.heap[k]? = some o) : (w.alloc o').heap[k]? = some o :=
  ((below_alloc (Below.refl w.heap.size w) o').block k (Array.getElem?_eq_some_iff.1 h).1).trans h
theorem beyond_start (w : World) (e0 e1 e2 : Int) (A : Option Addr) (n c : Nat) :
    ∀ W, W = (((((w.alloc (.cells #[.int .i64 e0, .int .i64 e1, .int .i64 e2] 46)).alloc (.cells #[.int .i64 0] 3)).alloc (.cells #[.int .i64 0] 3)).alloc (.cells #[.int .i64 0] 3)).alloc (.cells #[.int .i64 0] 3)).alloc (.cells #[.slice A n c] 25) →
    W.heap.size = w.heap.size + 6 ∧ BeyI w e0 e1 e2 0 0 0 0 W ∧ Boxed W (w.heap.size + 5) 25 (.slice A n c) := by
  rintro W rfl
  have hs : ∀ (W : World) (o : Obj), (W.alloc o).heap.size = W.heap.size + 1 := fun W o => World.size_alloc W o
  refine ⟨by simp only [hs], ⟨?_, ?_, ?_, ?_, ?_, ?_⟩, ?_⟩
  · exact alloc_keep _ (alloc_keep _ (alloc_keep _ (alloc_keep _ (by have := World.alloc_heap_new (w.alloc (.cells #[.int .i64 e0, .int .i64 e1, .int .i64 e2] 46)) (.cells #[.int .i64 0] 3); rwa [hs] at this))))
  · exact alloc_keep _ (alloc_keep _ (alloc_keep _ (by have := World.alloc_heap_new ((w.alloc (.cells #[.int .i64 e0, .int .i64 e1, .int .i64 e2] 46)).alloc (.cells #[.int .i64 0] 3)) (.cells #[.int .i64 0] 3); rwa [hs, hs] at this)))
  · exact alloc_keep _ (alloc_keep _ (by have := World.alloc_heap_new (((w.alloc (.cells #[.int .i64 e0, .int .i64 e1, .int .i64 e2] 46)).alloc (.cells #[.int .i64 0] 3)).alloc (.cells #[.int .i64 0] 3)) (.cells #[.int .i64 0] 3); rwa [hs, hs, hs] at this))
  · exact alloc_keep _ (by have := World.alloc_heap_new ((((w.alloc (.cells #[.int .i64 e0, .int .i64 e1, .int .i64 e2] 46)).alloc (.cells #[.int .i64 0] 3)).alloc (.cells #[.int .i64 0] 3)).alloc (.cells #[.int .i64 0] 3)) (.cells #[.int .i64 0] 3); rwa [hs, hs, hs, hs] at this)
  · exact alloc_keep _ (alloc_keep _ (alloc_keep _ (alloc_keep _ (alloc_keep _ (World.alloc_heap_new w _)))))
  · exact below_alloc (below_alloc (below_alloc (below_alloc (below_alloc (below_alloc (Below.refl _ _) _) _) _) _) _) _
  · have := World.alloc_heap_new (((((w.alloc (.cells #[.int .i64 e0, .int .i64 e1, .int .i64 e2] 46)).alloc (.cells #[.int .i64 0] 3)).alloc (.cells #[.int .i64 0] 3)).alloc (.cells #[.int .i64 0] 3)).alloc (.cells #[.int .i64 0] 3)) (.cells #[.slice A n c] 25)
    rwa [hs, hs, hs, hs, hs] at this
set_option maxRecDepth 100000 in
set_option maxHeartbeats 4000000 in
theorem beyond_in (n : Nat) (hn : 4 ≤ n) (A : Option Addr) (c : Nat) (r : List Int) (hr : ∀ x ∈ r, 0 ≤ x ∧ x ≤ 255) (hrl : r.length ≤ 1073741824) (hrc : r.length ≤ c) (e0 : Int) (e1 e2 : Nat) (h1 : e1 ≤ 65536) (h2 : e2 ≤ 65536) (w : World) (hC : Kd.C (Kd.int .u8) w A r.length r) :
    CallsIn Fence.wide n Tryz.prog 52 #[.slice A r.length c, .agg #[.int .i64 e0, .int .i64 (e1 : Int), .int .i64 (e2 : Int)]] w fun e w' => e = .returned (.int .i64 (beyL e1 e2 (linesB r) 0 0)) ∧ Below w.heap.size w w' := by
  have hn1 : 1 ≤ n := by omega
  have HC := Aside0.mk hC
  have HR := Aside0.mk hr
  clear hC hr
  have HL := Aside0.mk (fun W => bytesLines_calls A r.length c W)
  refine callsIn_of_wp_marks Tryz.func52 rfl trivial ?_ rfl
  simp only [Tryz.ntmps52, List.size_toArray, List.length_cons, List.length_nil, Nat.reduceAdd, Nat.reduceSub, Array.replicate_succ, Array.replicate_zero, List.push_toArray, List.append_toArray, List.nil_append, List.cons_append]
  gi_wp2
  refine ⟨trivial, ?_⟩
  refine (callsIn_wide.2 (HL.out _)).mono ?_
  rintro e W2 ⟨rfl, hW2⟩
  obtain ⟨hz, hI, hbx⟩ := beyond_start w e0 e1 e2 A r.length c W2 hW2
  have HS := Aside0.mk (blines_own (n - 1) (by omega) (w.heap.size + 5) A c r HR.out hrl hrc w HC.out W2 (Lies.below hI.b) hbx (by omega))
  have HI := Aside0.mk hI
  simp only [World.size_alloc, Nat.add_assoc, Nat.reduceAdd]
  clear hW2 hI hbx HL
  have HZ := Aside0.mk hz
  clear hz
  gi_wp2
  refine wpIn_range_own (F := Fence.wide) rfl rfl hn1 (gf := 81) (lb := #[.pointer (some ⟨w.heap.size + 5, 0, none⟩)]) rfl trivial (enters_of Tryz.func81 (by kernel_rfl) rfl) HS.out (Below.refl _ _) (by rintro q rfl; rw [HZ.out]; omega)
    (by rintro q (h | rfl) <;> rw [HZ.out] <;> omega) (fun _ => rfl) none (fun q e => by cases e)
    (fun pre g W => (g = none ∧ Sofar e1 e2 pre fun rest => beyL e1 e2 rest (sumL pre) pre.length) ∧ BeyI w e0 e1 e2 0 (sumL pre) pre.length (sumL pre) W)
    (fun c pre g W => g = none ∧ ∃ va vl vs v, ((c = .exit 0 ∧ v = 0 ∧ Sofar e1 e2 pre fun _ => -1) ∨ (c = .ret ∧ Sofar e1 e2 pre fun _ => v)) ∧ BeyI w e0 e1 e2 v va vl vs W)
    (Abd.and (Abd.pure _) (BeyI.abd _ _ _ _ _ _ _ (by rw [HZ.out]; omega) (fun q h => by subst h; omega)))
    (fun c s g A C row hs hg hr => by
      obtain ⟨rfl, va, vl, vs, v, hv, hI⟩ := hs
      exact ⟨rfl, va, vl, vs, v, hv, hI.grown hg (fun q e => (hr q e).elim (fun h => by have := HZ.out; omega) (fun h => by subst h; omega))⟩)
    ⟨⟨rfl, fun rest => rfl⟩, HI.out⟩
    (fun pre g W q h e => by rw [h.1.1] at e; cases e) (fun c pre g W q h e => by rw [h.1] at e; cases e)
    (fun x a' _ => a' = { tmps := #[.slice A r.length c, .agg #[.int .i64 e0, .int .i64 (e1 : Int), .int .i64 (e2 : Int)], undef, .pointer (some ⟨w.heap.size, 0, none⟩), .pointer (some ⟨w.heap.size + 1, 0, none⟩), .pointer (some ⟨w.heap.size + 2, 0, none⟩), .pointer (some ⟨w.heap.size + 3, 0, none⟩), .pointer (some ⟨w.heap.size + 4, 0, none⟩),
      .slice x.1 x.2.length x.2.length, .slice A r.length c, .func (.func 81) #[] #[.pointer (some ⟨w.heap.size + 5, 0, none⟩)], .slice x.1 x.2.length x.2.length, undef, undef, undef, undef, undef, undef, undef, undef, undef, undef, undef, undef, undef, undef, undef, undef, undef, undef, undef, undef, undef, undef, undef, undef, undef, undef, undef, undef, undef, undef, undef, undef], defers := [] })
    (fun x a' _ _ _ _ _ h _ _ => h) ?assign ?body ?done ?stop
  case assign =>
    intro l pre x g W K hI hK
    dsimp only [encB]
    gi_wp2
    exact hK _ _ (Spares.refl _ _ _) hI rfl
  case body =>
    rintro l pre ⟨A', ln⟩ g a' W hW2 ⟨⟨rfl, hsf⟩, hI⟩ rfl hsp
    rw [HZ.out] at hW2
    have hpre : pre.map Prod.snd <+: linesB r := by
      refine List.IsPrefix.trans ?_ hsp.1
      rw [List.map_append]
      exact ⟨_, rfl⟩
    have hsum := sumL_le hsp.1
    rw [sumL_snoc] at hsum
    dsimp only at hsum
    have hcnt := pre_count hpre
    have hln0 : ln ≠ [] := linesB_ne r ln (hsp.1.subset (by rw [List.map_append]; exact List.mem_append_right _ (by simp)))
    have hpos : 0 < ln.length := List.length_pos_iff.2 hln0
    obtain ⟨ad, hA', _, hcell⟩ := C_u8 (hsp.2 (A', ln) (List.mem_append_right _ List.mem_cons_self) W (C_lies HC.out (K := fun k => k < w.heap.size) (Lies.below hI.b) (fun k hk => hk))) hpos
    dsimp only at hA' hcell hpos
    subst hA'
    have hx0 := hcell 0 (ln.getD 0 0) (by rw [List.getD_eq_getElem?_getD, List.getElem?_eq_getElem hpos]; rfl)
    have hx1 : W.cell? ad = some (.int .u8 (ln.getD 0 0)) := by simpa [Addr.add] using hx0
    have HBL := Aside0.mk (fun ls : List (List Int) => beyL_step (e1 := e1) (e2 := e2) (ln := ln) (ls := ls) (z := sumL pre) (k := pre.length))
    have HSF := Aside0.mk hsf
    have HII := Aside0.mk hI
    clear hsf hsp hcell hpre
    have hpos' : (0 : Int) < (ln.length : Int) := by omega
    generalize hS : sumL pre = S at *
    generalize ln.getD 0 0 = x at *
    generalize hP : pre.length = P at *
    have kR := HII.out.r.cell
    have kA := HII.out.a.cell
    have kL := HII.out.l.cell
    have kS := HII.out.s.cell
    have kM1 : W.cell? ⟨w.heap.size, 1, none⟩ = some (.int .i64 (e1 : Int)) := (blk_cell HII.out.m 1).trans rfl
    have kM2 : W.cell? ⟨w.heap.size, 2, none⟩ = some (.int .i64 (e2 : Int)) := (blk_cell HII.out.m 2).trans rfl
    have fR := HII.out.r.frozen
    have fA := HII.out.a.frozen
    have fL := HII.out.l.frozen
    have fS := HII.out.s.frozen
    by_cases h13 : x = 13
    · have HV := Aside0.mk (fun ls : List (List Int) => (HBL.out ls).trans (if_pos h13))
      clear HBL
      subst h13
      gi_wp2
      exact ⟨none, Spares.refl _ _ _, rfl, _, _, _, 0, .inl ⟨rfl, rfl, HSF.out.snoc HV.out⟩, HII.out⟩
    · have HBL2 := Aside0.mk (fun ls : List (List Int) => (HBL.out ls).trans (if_neg h13))
      have hne : (x == 13) = false := by rw [beq_eq_false_iff_ne]; exact h13
      clear HBL
      have HL1 := Aside0.mk (HII.out.setL ((P : Int) + 1))
      by_cases hlim : e1 < P + 1
      · have hlim' : (e1 : Int) < (P : Int) + 1 := by omega
        have HV := Aside0.mk (fun ls : List (List Int) => (HBL2.out ls).trans (if_pos hlim))
        clear HBL2 hlim
        have HL2 := Aside0.mk (HL1.out.setR (S : Int))
        gi_wp2
        exact ⟨none, (spares_cell none 3 _ (by omega) (by omega) (Nat.le_of_eq HZ.out.symm)).trans (spares_cell none 1 _ (by omega) (by omega) (Nat.le_of_eq HZ.out.symm)), rfl, _, _, _, _, .inr ⟨rfl, HSF.out.snoc HV.out⟩, HL2.out⟩
      · have hlim' : ¬ (e1 : Int) < (P : Int) + 1 := by omega
        have hlim2 : decide ((e1 : Int) < (P : Int) + 1) = false := decide_eq_false hlim'
        have HBL3 := Aside0.mk (fun ls : List (List Int) => (HBL2.out ls).trans (if_neg hlim))
        clear HBL2 hlim
        by_cases hsz : e2 < S + ln.length
        · have hsz' : (e2 : Int) < (S : Int) + (ln.length : Int) := by omega
          have HV := Aside0.mk (fun ls : List (List Int) => (HBL3.out ls).trans (if_pos hsz))
          clear HBL3 hsz
          have HL2 := Aside0.mk (HL1.out.setR (e2 : Int))
          have hsub : IntKind.i64.wrap ((S : Int) + (e2 : Int)) = (S : Int) + (e2 : Int) := by
            unfold IntKind.wrap
            simp [IntKind.bits, IntKind.signed]
            omega
          have hsub2 : (S : Int) + (e2 : Int) - (S : Int) = (e2 : Int) := by omega
          gi_wp2
          exact ⟨none, (spares_cell none 3 _ (by omega) (by omega) (Nat.le_of_eq HZ.out.symm)).trans (spares_cell none 1 _ (by omega) (by omega) (Nat.le_of_eq HZ.out.symm)), rfl, _, _, _, _, .inr ⟨rfl, HSF.out.snoc HV.out⟩, HL2.out⟩
        · have hsz' : ¬ (e2 : Int) < (S : Int) + (ln.length : Int) := by omega
          have hsz2 : decide ((e2 : Int) < (S : Int) + (ln.length : Int)) = false := decide_eq_false hsz'
          have HV := Aside0.mk (fun ls : List (List Int) => (HBL3.out ls).trans (if_neg hsz))
          clear HBL3 hsz
          have HL2 := Aside0.mk ((HL1.out.setS ((S : Int) + (ln.length : Int))).setA ((S : Int) + (ln.length : Int)))
          have HE1 := Aside0.mk (show ((sumL (pre ++ [(some ad, ln)]) : Nat) : Int) = (S : Int) + (ln.length : Int) by rw [sumL_snoc, hS]; push_cast; rfl)
          have HE2 := Aside0.mk (show (((pre ++ [(some ad, ln)]).length : Nat) : Int) = (P : Int) + 1 by rw [List.length_append, hP]; push_cast; rfl)
          have HE3 := Aside0.mk (show sumL (pre ++ [(some ad, ln)]) = S + ln.length by rw [sumL_snoc, hS])
          have HE4 := Aside0.mk (show (pre ++ [(some ad, ln)]).length = P + 1 by rw [List.length_append, hP]; rfl)
          gi_wp2
          refine ⟨none, ((spares_cell none 3 _ (by omega) (by omega) (Nat.le_of_eq HZ.out.symm)).trans (spares_cell none 4 _ (by omega) (by omega) (Nat.le_of_eq HZ.out.symm))).trans (spares_cell none 2 _ (by omega) (by omega) (Nat.le_of_eq HZ.out.symm)), ⟨rfl, HSF.out.snoc (fun ls => ?_)⟩, ?_⟩
          · rw [HE3.out, HE4.out]
            exact HV.out ls
          · rw [HE1.out, HE2.out]
            exact HL2.out
  case done =>
    rintro D ys g W hD ⟨hys, hyf⟩ ⟨⟨rfl, hsf⟩, hI⟩ hK
    have HV := Aside0.mk (show beyL e1 e2 (linesB r) 0 0 = -1 by
      have := hsf []
      rw [List.append_nil, hys] at this
      rw [this]; rfl)
    have kR := hI.r.cell
    have fR := hI.r.frozen
    have hDz : w.heap.size + 5 ≤ D := by have := HZ.out; omega
    have HK1 := Aside0.mk (show (W.setCell ⟨w.heap.size + 1, 0, none⟩ (.int .i64 (-1))).heap[D]? = some (.deferred (some [])) from (Below.heap_setCell W _ _ D (by show ¬ D = w.heap.size + 1; omega)).trans hK)
    have HR1 := Aside0.mk ((hI.setR (-1)).grown (grownBy_putObj' _ D (.deferred none)) (fun q e => by cases e; exact hDz))
    clear hI hsf hys hyf hK
    gi_wp2
    refine ⟨by simp, .inl ⟨_, _, rfl, run_takeDeferred HK1.out, ?_⟩⟩
    refine ⟨_, results_cellB rfl _ _ _ ⟨w.heap.size + 1, 0, none⟩ (.int .i64 (-1)) rfl (run_isAgg_plain Tryz.underlying3 rfl _) HR1.out.r.cell, ?_⟩
    rw [HV.out]
    exact ⟨rfl, HR1.out.b⟩
  case stop =>
    rintro D c pre g W hD hsp ⟨rfl, va, vl, vs, v, hv, hI⟩ hK
    have hDz : w.heap.size + 5 ≤ D := by have := HZ.out; omega
    obtain ⟨rest, hrest⟩ := hsp.1
    rcases hv with ⟨rfl, rfl, hsf⟩ | ⟨rfl, hsf⟩
    · have HV := Aside0.mk (show beyL e1 e2 (linesB r) 0 0 = -1 by rw [← hrest]; exact hsf rest)
      have kR := hI.r.cell
      have fR := hI.r.frozen
      have HK1 := Aside0.mk (show (W.setCell ⟨w.heap.size + 1, 0, none⟩ (.int .i64 (-1))).heap[D]? = some (.deferred (some [])) from (Below.heap_setCell W _ _ D (by show ¬ D = w.heap.size + 1; omega)).trans hK)
      have HR1 := Aside0.mk ((hI.setR (-1)).grown (grownBy_putObj' _ D (.deferred none)) (fun q e => by cases e; exact hDz))
      clear hI hsf hK hsp hrest
      gi_wp2
      refine ⟨by simp, .inl ⟨_, _, rfl, run_takeDeferred HK1.out, ?_⟩⟩
      refine ⟨_, results_cellB rfl _ _ _ ⟨w.heap.size + 1, 0, none⟩ (.int .i64 (-1)) rfl (run_isAgg_plain Tryz.underlying3 rfl _) HR1.out.r.cell, ?_⟩
      rw [HV.out]
      exact ⟨rfl, HR1.out.b⟩
    · have HV := Aside0.mk (show beyL e1 e2 (linesB r) 0 0 = v by rw [← hrest]; exact hsf rest)
      have HK1 := Aside0.mk hK
      have HR1 := Aside0.mk (hI.grown (grownBy_putObj' _ D (.deferred none)) (fun q e => by cases e; exact hDz))
      clear hI hsf hK hsp hrest
      gi_wp2
      refine ⟨by simp, .inl ⟨_, _, rfl, run_takeDeferred HK1.out, ?_⟩⟩
      refine ⟨_, results_cellB rfl _ _ _ ⟨w.heap.size + 1, 0, none⟩ (.int .i64 v) rfl (run_isAgg_plain Tryz.underlying3 rfl _) HR1.out.r.cell, ?_⟩
      rw [HV.out]
      exact ⟨rfl, HR1.out.b⟩
theorem beyond_calls (A : Option Addr) (c : Nat) (r : List Int) (hr : ∀ x ∈ r, 0 ≤ x ∧ x ≤ 255) (hrl : r.length ≤ 1073741824) (hrc : r.length ≤ c) (e0 : Int) (e1 e2 : Nat) (h1 : e1 ≤ 65536) (h2 : e2 ≤ 65536) (w : World) (hC : Kd.C (Kd.int .u8) w A r.length r) :
    Calls Tryz.prog 52 #[.slice A r.length c, .agg #[.int .i64 e0, .int .i64 (e1 : Int), .int .i64 (e2 : Int)]] w fun e w' => e = .returned (.int .i64 (beyL e1 e2 (linesB r) 0 0)) ∧ Below w.heap.size w w' :=
  callsIn_wide.1 (beyond_in 4 (Nat.le_refl _) A c r hr hrl hrc e0 e1 e2 h1 h2 w hC)
end Go.Proofs.YtmmbpbgcobmifaaGreatDoorH
end
section
namespace Go.Proofs.YtmmbpbgcobmifaaGreatDoor.Pr
end Go.Proofs.YtmmbpbgcobmifaaGreatDoor.Pr
namespace Go.Proofs.YtmmbpbgcobmifaaGreatDoorH
open Go Go.RowKit Go.Proofs.YtmmbpbgcobmifaaGreatDoorW.PrintWords Go.Proofs.YtmmbpbgcobmifaaGreatDoorW.PrintLast Go.Proofs.YtmmbpbgcobmifaaGreatDoorW.PrintMore Go.Proofs.YtmmbpbgcobmifaaGreatDoor.Pr Go.Proofs.YtmmbpbgcobmifaaGreatDoorM
theorem scanP_le : ∀ (k : Nat) (s : ByteArray) (i : Nat) (st : Int), i ≤ s.size → (scanP k s i st).1 ≤ s.size
  | 0, s, i, st, h => h
  | k + 1, s, i, st, h => by
    rw [scanP]
    split
    · split
      · split
        · dsimp only; omega
        · exact scanP_le k s (i + 1) _ (by omega)
      · exact h
    · exact h
theorem scanR_nat (s : ByteArray) : ∃ n : Nat, (scanR s).2.1 = (n : Int) ∧ n ≤ s.size := by
  have h := scanP_le (s.size + 1) s 0 0 (Nat.zero_le _)
  unfold scanR
  split
  · exact ⟨_, rfl, h⟩
  · exact ⟨_, rfl, h⟩
theorem beyL_le (e1 e2 : Nat) : ∀ (ls : List (List Int)) (z k : Nat), beyL e1 e2 ls z k ≤ ((max e2 (z + ls.flatten.length) : Nat) : Int)
  | [], z, k => by rw [beyL]; omega
  | ln :: ls, z, k => by
    have ih := beyL_le e1 e2 ls (z + ln.length) (k + 1)
    rw [beyL, List.flatten_cons, List.length_append]
    split
    · omega
    · split
      · omega
      · split
        · omega
        · have : z + ln.length + ls.flatten.length = z + (ln.length + ls.flatten.length) := by omega
          rw [this] at ih
          exact ih
def secQ (r : List Int) (e1 e2 : Nat) (a : Nat) (q : List Fld × Int × Int) : RM (List Fld) :=
  if 0 ≤ beyL e1 e2 (linesB (r.take q.2.1.toNat)) 0 0 then .error (a + (beyL e1 e2 (linesB (r.take q.2.1.toNat)) 0 0).toNat, 5)
  else if q.2.2 = 0 then .ok (q.1, a + q.2.1.toNat) else .error (a + q.2.1.toNat, q.2.2)
def secM (s : List Int) (e1 e2 : Nat) (a : Nat) : RM (List Fld) := secQ (s.drop a) e1 e2 a (scanR (strOfNums (s.drop a)))
def DoesF (W : World) (B b : Nat) (A : Option Addr) (n c : Nat) (e0 e1 e2 : Int) (dv : Value) (D : List Int) (m : RM (List Fld)) (e : Ending) (w' : World) : Prop :=
  match m with
  | .ok (l, a1) => ∃ A' n' c', e = .returned (.slice A' n' c') ∧ Kd.R k28 28 w' B (fun _ => True) (.slice A' n' c') l ∧ AtR W w' B b A n c e0 e1 e2 a1 dv D
  | .error (a1, er) => e = gaveUp a1 er ∧ AtR W w' B b A n c e0 e1 e2 a1 dv D
theorem AtR.below {w W W1 : World} {B b : Nat} {A : Option Addr} {n c : Nat} {e0 e1 e2 : Int} {a : Nat} {dv : Value} {D : List Int} (h : AtR w W B b A n c e0 e1 e2 a dv D) (hB : B ≤ b) (hb : Below W.heap.size W W1) : AtR w W1 B b A n c e0 e1 e2 a dv D :=
  h.only hB (h.i.below hb) (Only.of_below hb (Nat.le_of_lt h.i.lt))
set_option maxHeartbeats 8000000 in
set_option maxRecDepth 100000 in
theorem section_does (w W : World) (B b : Nat) (A : Option Addr) (c : Nat) (e0 : Int) (e1 e2 : Nat) (a : Nat) (dv : Value) (D s : List Int) (hA : AtR w W B b A s.length c e0 (e1 : Int) (e2 : Int) a dv D) (hBb : B ≤ b) (hBw : B ≤ w.heap.size) (hC : Keeps B w fun W => Kd.C (Kd.int .u8) W A s.length s ∧ TabOk W)
    (hs : ByteL s) (hl : s.length ≤ 1073741824) (hsc : s.length ≤ c) (ha : a ≤ s.length) (h1 : e1 ≤ 65536) (h2 : e2 ≤ 65536) :
    Calls Tryz.prog 39 #[.pointer (some ⟨b, 0, none⟩)] W (DoesF W B b A s.length c e0 (e1 : Int) (e2 : Int) dv D (secM s e1 e2 a)) := by
  have AT0 := Aside0.mk (show AtR W W B b A s.length c e0 (e1 : Int) (e2 : Int) a dv D from ⟨hA.i, hA.r, Fore.refl _ _, Below.refl _ _⟩)
  have HK := Aside0.mk (fun (W' : World) (v : Value) (E : List Int) (a' : Nat) (h : AtR W W' B b A s.length c e0 (e1 : Int) (e2 : Int) a' v E) => hC W' (hA.b.trans h.b))
  have hsz : B ≤ W.heap.size := Nat.le_trans hBw hA.b.size
  have hbW := AT0.out.i.lt
  have HR := Aside0.mk (show ∀ x ∈ s.drop a, 0 ≤ x ∧ x ≤ 255 from fun x hx => hs x (List.mem_of_mem_drop hx))
  clear hA hC hs
  have htu : Tryz.prog.underlying 25 = some (.slice 5) := Tryz.underlying25
  have hq : (Tryz.prog.info? 5).map (fun i => i.size) = some 1 := by kernel_rfl
  obtain ⟨ii, hii, hisz⟩ := Option.map_eq_some_iff.1 hq
  clear hq
  obtain ⟨A', hA'⟩ : ∃ A', (if c = a then A else A.map (·.add (a * 1))) = A' := ⟨_, rfl⟩
  have HCD := Aside0.mk (fun (W' : World) (h : Kd.C (Kd.int .u8) W' A s.length s) => (show Kd.C (Kd.int .u8) W' A' (s.drop a).length (s.drop a) from by
    have := Kd.C_drop (m := a) (c := c) h ha hsc
    rw [← hA']
    exact this))
  have hdl : (s.drop a).length = s.length - a := List.length_drop
  have hs1 : ∀ W : World, (Instr.slice 25 (.slice A s.length c) (some (.int .i64 (a : Int))) none none).run Tryz.prog W = .ok (.slice A' (s.drop a).length (c - a)) W := fun W => by
    have := cut_from (P := Tryz.prog) 25 5 .i64 htu hii 1 hisz A s.length c (a : Int) (by omega) (by omega) W
    rw [Int.toNat_natCast, hA'] at this
    rw [hdl]
    exact this
  clear hA'
  show Calls _ _ _ _ (DoesF W B b A s.length c e0 (e1 : Int) (e2 : Int) dv D (secQ (s.drop a) e1 e2 a (scanR (strOfNums (s.drop a)))))
  obtain ⟨r, hr⟩ : ∃ r, s.drop a = r := ⟨_, rfl⟩
  rw [hr] at HR HCD hdl hs1
  rw [hr]
  clear hr
  obtain ⟨n, hn, hnr⟩ := scanR_nat (strOfNums r)
  rw [strOfNums_size] at hnr
  have hss : (strOfNums r).size < 4000000000 := by rw [strOfNums_size]; omega
  obtain ⟨q, hq⟩ : ∃ q, scanR (strOfNums r) = q := ⟨_, rfl⟩
  have HSC := Aside0.mk (fun (W' : World) (hg : TabOk W') => block_Scan.calls (strOfNums r) q.1 q.2.1 q.2.2 W' hg (by unfold block_Scan.f; rw [if_pos hss, hq]))
  rw [hq] at hn
  rw [hq]
  clear hq hss
  obtain ⟨fl, qn, er⟩ := q
  dsimp only at hn HSC
  subst hn
  have htl : (r.take n).length = n := by rw [List.length_take]; omega
  have hs2 : ∀ W : World, (Instr.slice 25 (.slice A' r.length (c - a)) none (some (.int .i64 (n : Int))) none).run Tryz.prog W = .ok (.slice A' (r.take n).length (c - a)) W := fun W => by
    have := cut_to (P := Tryz.prog) 25 5 .i64 htu hii A' r.length (c - a) (n : Int) (by omega) (by omega) (by omega) W
    rw [Int.toNat_natCast] at this
    rw [htl]
    exact this
  have HCT := Aside0.mk (fun (W' : World) (h : Kd.C (Kd.int .u8) W' A s.length s) => Kd.C_take (m := n) (HCD.out W' h) (by omega))
  have HBY := Aside0.mk (fun (W' : World) (h : Kd.C (Kd.int .u8) W' A' (r.take n).length (r.take n)) => beyond_calls A' (c - a) (r.take n) (fun x hx => HR.out x (List.mem_of_mem_take hx)) (by rw [htl]; omega) (by rw [htl]; omega) e0 e1 e2 h1 h2 W' h)
  obtain ⟨bv, hbv⟩ : ∃ bv, beyL e1 e2 (linesB (r.take n)) 0 0 = bv := ⟨_, rfl⟩
  have hbvr : bv ≤ 1073741824 := by
    have := beyL_le e1 e2 (linesB (r.take n)) 0 0
    rw [hbv, linesB_flat] at this
    omega
  unfold secQ
  dsimp only
  rw [Int.toNat_natCast, hbv]
  rw [hbv] at HBY
  clear hbv
  have hrl : r.length ≤ 1073741824 := by omega
  have hna : n + a ≤ s.length := by omega
  have hna2 : (n : Int) + (a : Int) ≤ 1073741824 := by omega
  have HDL := Aside0.mk hdl
  obtain ⟨L, hL⟩ : ∃ L, r.take n = L := ⟨_, rfl⟩
  rw [hL] at htl hs2 HCT HBY
  have HTL := Aside0.mk htl
  clear hdl htl hL
  obtain ⟨M, hM⟩ : ∃ M : RM (List Fld), (if 0 ≤ bv then .error (a + bv.toNat, 5) else if er = 0 then .ok (fl, a + n) else .error (a + n, er)) = M := ⟨_, rfl⟩
  rw [hM]
  have HM := Aside0.mk hM
  clear hM
  have c0 := AT0.out.i.c0
  have c1 := AT0.out.i.c1
  have c2 := AT0.out.i.c2
  have c3 := AT0.out.i.c3
  have c4 := AT0.out.i.c4
  have hge : (0 : Int) ≤ (a : Int) := by omega
  have hge2 : (a : Int) ≤ (s.length : Int) := by omega
  have hge3 : (0 : Int) ≤ (n : Int) := by omega
  have hge4 : (n : Int) ≤ (r.length : Int) := by omega
  go_enter Tryz.func39, Tryz.ntmps39
  go_wp2_with fail
  go_region_held3 (fun W => W.cell? ⟨b, 0, none⟩ = some (.slice A s.length c) ∧ W.cell? ⟨b, 4, none⟩ = some (.int .i64 (a : Int))) (exact ⟨c0, c4⟩) (fail)
  have A1 := Aside0.mk (AT0.out.below hBb (below_drew (Below.refl _ _) : Below W.heap.size W W.drew))
  have hcv : (convert 25 9 (.slice A' r.length (c - a))).run Tryz.prog W.drew = .ok (.string (strOfNums r)) W.drew := Kd.C_string Tryz.underlying25 Tryz.underlying5 Tryz.underlying9 (HCD.out _ (HK.out _ _ _ _ A1.out).1)
  go_wp2_with fail
  refine (HSC.out _ (HK.out _ _ _ _ A1.out).2).mono ?_
  rintro e W2 ⟨fv, rfl, hR2, hb2⟩
  have A2 := Aside0.mk (A1.out.below hBb hb2)
  have HR2 := Aside0.mk (Kd.R_lower (base' := B) hR2 (Nat.le_trans hsz (Nat.le_refl _)))
  clear hR2 hb2 hcv
  obtain ⟨fA, fc, hfv⟩ := Kd.R_slice HR2.out
  subst hfv
  have d1 := A2.out.i.c1
  have d2 := A2.out.i.c2
  have d3 := A2.out.i.c3
  have d4 := A2.out.i.c4
  go_wp2_with fail
  have A3 := Aside0.mk (A2.out.below hBb (below_drew (Below.refl _ _) : Below W2.heap.size W2 W2.drew))
  have HBY3 := HBY.out W2.drew (HCT.out _ (HK.out _ _ _ _ A3.out).1)
  have HR3 := Aside0.mk (Kd.R_drew HR2.out)
  clear HBY HSC
  go_region_held3 (fun W => W.cell? ⟨b, 1, none⟩ = some (.int .i64 e0) ∧ W.cell? ⟨b, 2, none⟩ = some (.int .i64 (e1 : Int)) ∧ W.cell? ⟨b, 3, none⟩ = some (.int .i64 (e2 : Int))) (first | exact ⟨d1, d2, d3⟩ | exact ⟨x1, x2, x3⟩)
    (first | (go_at_call 52; refine HBY3.mono ?_; rintro e w4 ⟨rfl, hb4⟩; have A4 := Aside0.mk (A3.out.below hBb hb4); have HR4 := Aside0.mk (Kd.R_below HR3.out hb4); have x1 := A4.out.i.c1; have x2 := A4.out.i.c2; have x3 := A4.out.i.c3; clear hb4))
  have x4 := A4.out.i.c4
  have y4 := A4.out.i.fz 4
  clear d1 d2 d3 d4 x1 x2 x3 c0 c1 c2 c3 c4
  by_cases hbp : 0 ≤ bv
  · have HM2 := Aside0.mk (show (.error (a + bv.toNat, 5) : RM (List Fld)) = M by rw [← HM.out, if_pos hbp])
    obtain ⟨z, rfl⟩ := Int.eq_ofNat_of_zero_le hbp
    rw [Int.toNat_natCast] at HM2
    obtain ⟨m, hm⟩ : ∃ m, a + z = m := ⟨_, rfl⟩
    have hw4 : IntKind.i64.wrap ((a : Int) + (z : Int)) = (m : Int) := by
      unfold IntKind.wrap
      simp [IntKind.bits, IntKind.signed]
      omega
    rw [hm] at HM2
    clear hm HM
    have HMO := Aside0.mk (fun W' (h : W'.cell? ⟨b, 4, none⟩ = some (.int .i64 (m : Int))) => must_off b m 5 W' h)
    have A5 := Aside0.mk (A4.out.set4 hBb m)
    go_wp2_with fail
    refine (HMO.out _ A5.out.i.c4).mono ?_
    rintro e w7 ⟨rfl, rfl⟩
    refine ⟨rfl, ?_⟩
    show DoesF W B b A s.length c e0 (e1 : Int) (e2 : Int) dv D M _ _
    rw [← HM2.out]
    exact ⟨rfl, A5.out⟩
  · have HM2 := Aside0.mk (show (if er = 0 then .ok (fl, a + n) else .error (a + n, er) : RM (List Fld)) = M by rw [← HM.out, if_neg hbp])
    have hbp2 : decide ((0 : Int) ≤ bv) = false := decide_eq_false hbp
    obtain ⟨m, hm⟩ : ∃ m, a + n = m := ⟨_, rfl⟩
    have hw4 : IntKind.i64.wrap ((a : Int) + (n : Int)) = (m : Int) := by
      unfold IntKind.wrap
      simp [IntKind.bits, IntKind.signed]
      omega
    rw [hm] at HM2
    clear hm HM
    have A5 := Aside0.mk (A4.out.set4 hBb m)
    have HR5 := Aside0.mk (Kd.R_set HR4.out A4.out.i (by decide) 4 (.int .i64 (m : Int)))
    by_cases he : er = 0
    · subst he
      have HMO := Aside0.mk (fun W' => must_on b 0 W')
      rw [if_pos rfl] at HM2
      go_wp2_with fail
      refine (HMO.out _).mono ?_
      rintro e w7 ⟨rfl, rfl⟩
      go_wp2
      go_ret
      show DoesF W B b A s.length c e0 (e1 : Int) (e2 : Int) dv D M _ _
      rw [← HM2.out]
      exact ⟨_, _, _, rfl, HR5.out, A5.out⟩
    · have he2 : (er == 0) = false := by rw [beq_eq_false_iff_ne]; exact he
      rw [if_neg he] at HM2
      have HMO := Aside0.mk (fun W' (h : W'.cell? ⟨b, 4, none⟩ = some (.int .i64 (m : Int))) => must_off b m er W' h)
      go_wp2_with fail
      refine (HMO.out _ A5.out.i.c4).mono ?_
      rintro e w7 ⟨rfl, rfl⟩
      refine ⟨rfl, ?_⟩
      show DoesF W B b A s.length c e0 (e1 : Int) (e2 : Int) dv D M _ _
      rw [← HM2.out]
      exact ⟨rfl, A5.out⟩
end Go.Proofs.YtmmbpbgcobmifaaGreatDoorH
end
section
namespace Go.Proofs.YtmmbpbgcobmifaaGreatDoorH
open Go.RowKit Go.Proofs.YtmmbpbgcobmifaaGreatDoorW.PrintWords Go.Proofs.YtmmbpbgcobmifaaGreatDoorW.PrintLast Go.Proofs.YtmmbpbgcobmifaaGreatDoorW.PrintMore
theorem at_i64 {w : World} {A : Option Addr} {n : Nat} {xs : List Int} (h : Kd.C (Kd.int .i64) w A n xs) (k : Nat) (hk : k < n) : ∃ ad, A = some ad ∧ w.cell? (ad.add k) = some (.int .i64 (xs.getD k 0)) := by
  obtain ⟨ad, c, e, _, hK, hc0⟩ := Kd.C_get h 0 (k : Int) (by omega) (by omega)
  have hc : ∀ j u, c[j]? = some u → w.cell? (ad.add ((k : Int).toNat * 1 + j)) = some u := hc0
  rw [Int.toNat_natCast] at hK hc
  have hK : c = [.int .i64 (xs.getD k 0)] := hK
  subst hK
  refine ⟨ad, e, ?_⟩
  have := hc 0 _ rfl
  rwa [Nat.mul_one, Nat.add_zero] at this
def minZ (l : List Int) : Int := (l.drop 1).foldl min (l.getD 0 0)
def maxZ (l : List Int) : Int := (l.drop 1).foldl max (l.getD 0 0)
def minToZ (l : List Int) (k : Nat) : Int := ((l.take k).drop 1).foldl min (l.getD 0 0)
def maxToZ (l : List Int) (k : Nat) : Int := ((l.take k).drop 1).foldl max (l.getD 0 0)
theorem drop_take_stepZ (l : List Int) (k : Nat) (h1 : 1 ≤ k) (h : k < l.length) : (l.take (k + 1)).drop 1 = (l.take k).drop 1 ++ [l.getD k 0] := by
  rw [take_one l 0 k h, List.drop_append_of_le_length (by rw [List.length_take]; omega)]
theorem minToZ_step (l : List Int) (k : Nat) (h1 : 1 ≤ k) (h : k < l.length) : minToZ l (k + 1) = min (minToZ l k) (l.getD k 0) := by
  unfold minToZ
  rw [drop_take_stepZ l k h1 h, List.foldl_append]
  rfl
theorem maxToZ_step (l : List Int) (k : Nat) (h1 : 1 ≤ k) (h : k < l.length) : maxToZ l (k + 1) = max (maxToZ l k) (l.getD k 0) := by
  unfold maxToZ
  rw [drop_take_stepZ l k h1 h, List.foldl_append]
  rfl
set_option maxHeartbeats 800000 in
set_option maxRecDepth 100000 in
theorem minZ_calls (A0 : Option Addr) (c0 : Nat) (l : List Int) (w : World) (hr : Kd.C (Kd.int .i64) w A0 l.length l) (hn : 0 < l.length) (hl : l.length < 8796093022208) :
    Calls Tryz.prog 35 #[.slice A0 l.length c0] w fun e w' => e = .returned (.int .i64 (minZ l)) ∧ w' = w := by
  obtain ⟨ad, e, hx0⟩ := at_i64 hr 0 hn
  subst e
  rw [show ad.add 0 = ad from rfl] at hx0
  have HR := Aside0.mk hr
  have hn1 : ¬ (l.length : Int) < 1 := by omega
  clear hr
  go_enter Tryz.func35, Tryz.ntmps35
  go_wp2
  go_loop [3, 4] (fun v3 v4 => ∃ k : Nat, 1 ≤ k ∧ k ≤ l.length ∧ v4 = .int .i64 k ∧ v3 = .int .i64 (minToZ l k)) (fun _ v4 => l.length - (intOf v4).toNat)
  case atStart => exact ⟨1, Nat.le_refl _, hn, rfl, congrArg (Value.int IntKind.i64) (by unfold minToZ; cases l with | nil => exact absurd hn (Nat.lt_irrefl _) | cons a l => rfl)⟩
  case round =>
    obtain ⟨k, h1, hk, rfl, rfl⟩ := hrel
    by_cases hlt : k < l.length
    · obtain ⟨ad', e, hxk⟩ := at_i64 HR.out k hlt
      cases e
      have HS := Aside0.mk (minToZ_step l k h1 hlt)
      generalize l.getD k 0 = y at *
      generalize hmk : minToZ l k = m at *
      go_wp2
      go_round
      case rel => exact ⟨k + 1, by omega, hlt, by go_num, by rw [HS.out]⟩
      case measure => simp [intOf]; omega
    · obtain rfl : k = l.length := by omega
      have HM := Aside0.mk (show minToZ l l.length = minZ l by unfold minToZ minZ; rw [List.take_length])
      go_wp2
      go_ret
      exact ⟨by first | rfl | (simp; done) | (rw [HM.out]; first | rfl | simp), rfl⟩
set_option maxHeartbeats 800000 in
set_option maxRecDepth 100000 in
theorem maxZ_calls (A0 : Option Addr) (c0 : Nat) (l : List Int) (w : World) (hr : Kd.C (Kd.int .i64) w A0 l.length l) (hn : 0 < l.length) (hl : l.length < 8796093022208) :
    Calls Tryz.prog 36 #[.slice A0 l.length c0] w fun e w' => e = .returned (.int .i64 (maxZ l)) ∧ w' = w := by
  obtain ⟨ad, e, hx0⟩ := at_i64 hr 0 hn
  subst e
  rw [show ad.add 0 = ad from rfl] at hx0
  have HR := Aside0.mk hr
  have hn1 : ¬ (l.length : Int) < 1 := by omega
  clear hr
  go_enter Tryz.func36, Tryz.ntmps36
  go_wp2
  go_loop [3, 4] (fun v3 v4 => ∃ k : Nat, 1 ≤ k ∧ k ≤ l.length ∧ v4 = .int .i64 k ∧ v3 = .int .i64 (maxToZ l k)) (fun _ v4 => l.length - (intOf v4).toNat)
  case atStart => exact ⟨1, Nat.le_refl _, hn, rfl, congrArg (Value.int IntKind.i64) (by unfold maxToZ; cases l with | nil => exact absurd hn (Nat.lt_irrefl _) | cons a l => rfl)⟩
  case round =>
    obtain ⟨k, h1, hk, rfl, rfl⟩ := hrel
    by_cases hlt : k < l.length
    · obtain ⟨ad', e, hxk⟩ := at_i64 HR.out k hlt
      cases e
      have HS := Aside0.mk (maxToZ_step l k h1 hlt)
      generalize l.getD k 0 = y at *
      generalize hmk : maxToZ l k = m at *
      go_wp2
      go_round
      case rel => exact ⟨k + 1, by omega, hlt, by go_num, by rw [HS.out]⟩
      case measure => simp [intOf]; omega
    · obtain rfl : k = l.length := by omega
      have HM := Aside0.mk (show maxToZ l l.length = maxZ l by unfold maxToZ maxZ; rw [List.take_length])
      go_wp2
      go_ret
      exact ⟨by first | rfl | (simp; done) | (rw [HM.out]; first | rfl | simp), rfl⟩
end Go.Proofs.YtmmbpbgcobmifaaGreatDoorH
end
section
namespace Go.Proofs.YtmmbpbgcobmifaaGreatDoorH
open Go.RowKit Go.Proofs.YtmmbpbgcobmifaaGreatDoorW.PrintWords Go.Proofs.YtmmbpbgcobmifaaGreatDoorW.PrintLast Go.Proofs.YtmmbpbgcobmifaaGreatDoorW.PrintMore
def rightL (e0 e1 e2 : Int) : Bool := decide (0 ≤ e0) && decide (0 ≤ e1) && decide (0 ≤ e2) && decide (e0 ≤ 65536) && decide (e1 ≤ 65536) && decide (e2 ≤ 65536)
theorem minZ3 (a b c : Int) : minZ [a, b, c] = min (min a b) c := by simp [minZ, List.foldl]
theorem maxZ3 (a b c : Int) : maxZ [a, b, c] = max (max a b) c := by simp [maxZ, List.foldl]
theorem rightL_eq (a b c : Int) : rightL a b c = (decide (0 ≤ minZ [a, b, c]) && decide (maxZ [a, b, c] ≤ 65536)) := by
  rw [minZ3, maxZ3]
  unfold rightL
  rw [Bool.eq_iff_iff]
  simp only [Bool.and_eq_true, decide_eq_true_eq]
  omega
theorem C_three {W : World} {b : Nat} (a1 a2 a3 : Int) (h : W.heap[b]? = some (.cells #[.int .i64 a1, .int .i64 a2, .int .i64 a3] 3 (0, 0))) : Kd.C (Kd.int .i64) W (some ⟨b, 0, none⟩) ([a1, a2, a3] : List Int).length [a1, a2, a3] := by
  refine ⟨rfl, (show (3 : Nat) ≤ 9223372036854775807 by decide), fun _ => ⟨_, rfl, fun j x hx => ?_⟩⟩
  refine ⟨[.int .i64 x], rfl, rfl, fun i u hu => ?_⟩
  have e : i = 0 ∧ .int .i64 x = u := by
    cases i with
    | zero => exact ⟨rfl, by simpa using hu⟩
    | succ i => simp at hu
  obtain ⟨rfl, rfl⟩ := e
  match j, hx with
  | 0, hx => cases hx; exact World.news_of_block h 0 _ rfl
  | 1, hx => cases hx; exact World.news_of_block h 1 _ rfl
  | 2, hx => cases hx; exact World.news_of_block h 2 _ rfl
  | j + 3, hx => simp at hx
set_option maxHeartbeats 1600000 in
set_option maxRecDepth 100000 in
theorem bodyRight_calls (e0 e1 e2 : Int) (w : World) :
    Calls Tryz.prog 22 #[.agg #[.int .i64 e0, .int .i64 e1, .int .i64 e2]] w fun e w' => e = .returned (.bool (rightL e0 e1 e2)) ∧ Below w.heap.size w w' := by
  have HMI := Aside0.mk (fun W (h : W.heap[w.heap.size + 1]? = some (.cells #[.int .i64 e0, .int .i64 e1, .int .i64 e2] 3 (0, 0))) => minZ_calls (some ⟨w.heap.size + 1, 0, none⟩) 3 [e0, e1, e2] W (C_three e0 e1 e2 h) (show (0 : Nat) < 3 by decide) (show (3 : Nat) < 8796093022208 by decide))
  have HMA := Aside0.mk (fun W (h : W.heap[w.heap.size + 1]? = some (.cells #[.int .i64 e0, .int .i64 e1, .int .i64 e2] 3 (0, 0))) => maxZ_calls (some ⟨w.heap.size + 1, 0, none⟩) 3 [e0, e1, e2] W (C_three e0 e1 e2 h) (show (0 : Nat) < 3 by decide) (show (3 : Nat) < 8796093022208 by decide))
  have HE := Aside0.mk (rightL_eq e0 e1 e2)
  generalize minZ [e0, e1, e2] = x at *
  generalize maxZ [e0, e1, e2] = y at *
  have hb2 : ∀ o1 o2 : Obj, Below w.heap.size w ((w.alloc o1).alloc o2) := fun o1 o2 => below_alloc (below_alloc (Below.refl _ _) o1) o2
  have HB := Aside0.mk hb2
  clear hb2
  by_cases hx : 0 ≤ x
  · have hx' : decide (0 ≤ x) = true := decide_eq_true hx
    go_enter Tryz.func22, Tryz.ntmps22
    go_wp2_with fail
    refine (HMI.out _ (by simpa using heap_alloc_new (w.alloc _) _)).mono ?_
    rintro e w1 ⟨rfl, rfl⟩
    go_wp2_with fail
    refine (HMA.out _ (by simpa using heap_alloc_new (w.alloc _) _)).mono ?_
    rintro e w1 ⟨rfl, rfl⟩
    go_wp2
    go_ret
    refine ⟨?_, HB.out _ _⟩
    rw [HE.out, hx', Bool.true_and]
    rfl
  · have hx' : decide (0 ≤ x) = false := decide_eq_false hx
    go_enter Tryz.func22, Tryz.ntmps22
    go_wp2_with fail
    refine (HMI.out _ (by simpa using heap_alloc_new (w.alloc _) _)).mono ?_
    rintro e w1 ⟨rfl, rfl⟩
    go_wp2
    go_ret
    refine ⟨?_, HB.out _ _⟩
    rw [HE.out, hx', Bool.false_and]
    rfl
end Go.Proofs.YtmmbpbgcobmifaaGreatDoorH
end
