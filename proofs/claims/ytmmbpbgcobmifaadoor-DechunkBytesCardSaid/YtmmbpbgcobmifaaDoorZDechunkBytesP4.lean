import Derived.Test.YtmmbpbgcobmifaaDoorZDechunkBytesP1
import Derived.Test.YtmmbpbgcobmifaaDoorZDechunkBytesP3
import Derived.ControlIn
import Derived.Scope
import Derived.WalkMore
import Derived.RangeFuncFrom
import Derived.RangeFuncWrites
import Derived.RangeFuncBox
import Derived.Maps.AppendAt
namespace Go.Proofs.YtmmbpbgcobmifaaDoorW.PrintWords
end Go.Proofs.YtmmbpbgcobmifaaDoorW.PrintWords
namespace Go.Proofs.YtmmbpbgcobmifaaDoorW.PrintLast
end Go.Proofs.YtmmbpbgcobmifaaDoorW.PrintLast
namespace Go.Proofs.YtmmbpbgcobmifaaDoorW.PrintMore
end Go.Proofs.YtmmbpbgcobmifaaDoorW.PrintMore
namespace Go.Proofs.YtmmbpbgcobmifaaDoor.Pr
end Go.Proofs.YtmmbpbgcobmifaaDoor.Pr
namespace Go.Proofs.YtmmbpbgcobmifaaDoorH
end Go.Proofs.YtmmbpbgcobmifaaDoorH
namespace Go.Proofs.YtmmbpbgcobmifaaDoorM
end Go.Proofs.YtmmbpbgcobmifaaDoorM
section
namespace Go.Proofs.YtmmbpbgcobmifaaDoor.Pr
end Go.Proofs.YtmmbpbgcobmifaaDoor.Pr
namespace Go.Proofs.YtmmbpbgcobmifaaDoorH
open Go.RowKit Go.Proofs.YtmmbpbgcobmifaaDoorW.PrintWords Go.Proofs.YtmmbpbgcobmifaaDoorW.PrintLast Go.Proofs.YtmmbpbgcobmifaaDoorW.PrintMore Go.Proofs.YtmmbpbgcobmifaaDoor.Pr
def colon (s : ByteArray) : Nat := s.data.toList.findIdx (· == 58)
theorem indexByte_findIdx : ∀ (l : List UInt8) (c : UInt8), Lib.indexByte l c = if l.findIdx (· == c) < l.length then ((l.findIdx (· == c) : Nat) : Int) else -1
  | [], c => rfl
  | b :: l, c => by
    unfold Lib.indexByte
    rw [List.findIdx_cons, indexByte_findIdx l c]
    cases h : b == c with
    | true => simp
    | false =>
      simp only [cond_false, List.length_cons]
      by_cases h2 : l.findIdx (· == c) < l.length
      · have e1 : (((List.findIdx (· == c) l : Nat) : Int) == -1) = false := by rw [beq_eq_false_iff_ne]; omega
        have e2 : List.findIdx (· == c) l + 1 < l.length + 1 := by omega
        simp only [if_pos h2, if_pos e2, e1, Bool.false_eq_true, if_false]
        omega
      · have e2 : ¬ List.findIdx (· == c) l + 1 < l.length + 1 := by omega
        simp only [if_neg h2, if_neg e2]
        rfl
theorem cut_colon (s : ByteArray) : Lib.cut s.data.toList (⟨#[58]⟩ : ByteArray).data.toList =
    if colon s < s.size then (s.data.toList.take (colon s), s.data.toList.drop (colon s + 1), true) else (s.data.toList, [], false) := by
  have e : Lib.index s.data.toList (⟨#[58]⟩ : ByteArray).data.toList = if colon s < s.size then ((colon s : Nat) : Int) else -1 := by
    rw [size_eq_length]
    exact (Lib.index_one _ _).trans (indexByte_findIdx _ _)
  unfold Lib.cut
  rw [e]
  by_cases h : colon s < s.size
  · rw [if_pos h, if_pos h, if_pos (by omega)]
    rfl
  · rw [if_neg h, if_neg h, if_neg (by omega)]
def nameOf (s : ByteArray) : ByteArray := s.extract 0 (colon s)
def restOf (s : ByteArray) : ByteArray := s.extract (colon s + 1) s.size
def lineB (s : ByteArray) : Bool := decide (colon s < s.size) && (tokB (nameOf s) && allB textI (restOf s))
def parseF (s : ByteArray) : ByteArray := if lineB s then nameOf s else ⟨#[]⟩
def parseV (s : ByteArray) : ByteArray := if lineB s then trimS (restOf s) else ⟨#[]⟩
theorem nameOf_size (s : ByteArray) : (nameOf s).size ≤ s.size := by
  rw [size_eq_length, size_eq_length, nameOf, extract_to, List.length_take]
  omega
theorem restOf_size (s : ByteArray) : (restOf s).size ≤ s.size := by
  rw [size_eq_length, size_eq_length, restOf, extract_from, List.length_drop]
  omega
theorem all_dropWhile {p q : UInt8 → Bool} (hpq : ∀ x, p x = true → q x = true) : ∀ l : List UInt8, (l.dropWhile p).all q = l.all q
  | [] => rfl
  | a :: l => by
    cases h : p a with
    | true => rw [List.dropWhile_cons_of_pos h, all_dropWhile hpq l, List.all_cons, hpq a h, Bool.true_and]
    | false => rw [List.dropWhile_cons_of_neg (by simp [h])]
theorem all_rtrim {p q : UInt8 → Bool} (hpq : ∀ x, p x = true → q x = true) (l : List UInt8) : (rtrim p l).all q = l.all q := by
  unfold rtrim
  rw [List.all_reverse, all_dropWhile hpq, List.all_reverse]
theorem text_trim (s : ByteArray) : allB textI (trimS s) = allB textI s := by
  have h : ∀ x : UInt8, blankU x = true → textI (x.toNat : Int) = true := fun x hx => by
    unfold textI
    rw [blankU_int, hx, Bool.true_or]
  unfold allB
  rw [trimS_data, trimL_eq, all_dropWhile h, all_rtrim h]
def valueB (s : ByteArray) : Bool := allB textI s && decide (trimS s = s)
def rightB (a b : ByteArray) : Bool := tokB a && valueB b
theorem value_trim (s : ByteArray) : valueB (trimS s) = allB textI s := by
  unfold valueB
  rw [text_trim, trimS_idem]
  simp
theorem octet_Value_eq (a : ByteArray) (hs : a.size ≤ 140737488355328) : octet_Value.f a = some (valueB a) := by
  unfold octet_Value.f octet_Text.f octet_Trim.f
  simp only [if_pos hs, Option.bind_some]
  unfold valueB
  cases allB textI a with
  | false => rfl
  | true => rw [if_pos rfl, beq_toList, Bool.true_and]
theorem field_Right_eq (a b : ByteArray) (ha : a.size ≤ 140737488355328) (hb : b.size ≤ 140737488355328) : field_Right.f a b = some (rightB a b) := by
  unfold field_Right.f octet_Token.f
  rw [if_pos ha, Option.bind_some, octet_Value_eq b hb, Option.bind_some]
  unfold rightB
  cases tokB a with
  | false => rfl
  | true => rw [if_pos rfl, Bool.true_and]
theorem field_Parse_eq (s : ByteArray) (hs : s.size < 4294967281) : field_Parse.f s = some (parseF s, parseV s, if lineB s then 0 else 2) := by
  unfold field_Parse.f strings_Cut.f octet_Trim.f
  rw [if_pos hs, Option.bind_some, cut_colon]
  by_cases hc : colon s < s.size
  · rw [if_pos hc]
    have e1 : (⟨(s.data.toList.take (colon s)).toArray⟩ : ByteArray) = nameOf s := bytes_ext (by rw [nameOf, extract_to])
    have e2 : (⟨(s.data.toList.drop (colon s + 1)).toArray⟩ : ByteArray) = restOf s := bytes_ext (by rw [restOf, extract_from])
    have h1 := nameOf_size s
    have h2 := restOf_size s
    have h3 := trimS_size (restOf s)
    simp only [e1, e2]
    rw [if_pos (by omega), Option.bind_some, if_pos trivial, field_Right_eq _ _ (by omega) (by omega), Option.bind_some]
    have hl : lineB s = rightB (nameOf s) (trimS (restOf s)) := by
      unfold lineB rightB
      rw [value_trim, decide_eq_true hc, Bool.true_and]
    unfold parseF parseV
    rw [hl]
    cases rightB (nameOf s) (trimS (restOf s)) <;> rfl
  · rw [if_neg hc]
    have hl : lineB s = false := by
      unfold lineB
      rw [decide_eq_false hc, Bool.false_and]
    have h0 : (⟨#[]⟩ : ByteArray).size ≤ 140737488355328 := by decide
    unfold parseF parseV
    rw [hl]
    simp only [if_pos h0, Option.bind_some, Bool.false_eq_true, if_false]
end Go.Proofs.YtmmbpbgcobmifaaDoorH
end
section
namespace Go.Proofs.YtmmbpbgcobmifaaDoor.Pr
open Go.RowKit Go.Proofs.YtmmbpbgcobmifaaDoorH Go.Proofs.YtmmbpbgcobmifaaDoorW.PrintWords Go.Proofs.YtmmbpbgcobmifaaDoorW.PrintLast Go.Proofs.YtmmbpbgcobmifaaDoorW.PrintMore
attribute [local go_sem] max2_int min2_int max_two min_two max_three min_three max_four min_four   -- for this text's walks alone
set_option linter.unusedVariables false
set_option linter.unusedSimpArgs false
def block_next.f (a0 : Int) (a1 : Int) : Option (Int × Bool) := (some (([a1] : List Int) : List Int)).bind fun y118 => (if a0 = 0 then (if a1 = 13 then (some (4, true)) else ((octet_Token.f (strOfNums y118)).bind fun t121 => (some (1, t121)))) else (if a0 = 1 then (if a1 = 58 then (some (2, true)) else ((octet_Token.f (strOfNums y118)).bind fun t122 => (some (1, t122)))) else (if a0 = 2 then (if a1 = 13 then (some (3, true)) else ((octet_Text.f (strOfNums y118)).bind fun t123 => (some (2, t123)))) else (if a0 = 3 then (some (0, (a1 == 10))) else (if a0 = 4 then (some (5, (a1 == 10))) else (some (5, false)))))))
end Go.Proofs.YtmmbpbgcobmifaaDoor.Pr
end
section
namespace Go.Proofs.YtmmbpbgcobmifaaDoor.Pr
end Go.Proofs.YtmmbpbgcobmifaaDoor.Pr
namespace Go.Proofs.YtmmbpbgcobmifaaDoorH
open Go.RowKit Go.Shelf Go.Proofs.YtmmbpbgcobmifaaDoorW.PrintWords Go.Proofs.YtmmbpbgcobmifaaDoorW.PrintLast Go.Proofs.YtmmbpbgcobmifaaDoorW.PrintMore Go.Proofs.YtmmbpbgcobmifaaDoor.Pr
attribute [local go_sem] Oper.semAt_some
def nxt (st c : Int) : Int × Bool := (block_next.f st c).getD (5, false)
def scanP : Nat → ByteArray → Nat → Int → Nat × Int
  | 0, _, i, _ => (i, 4)
  | k + 1, s, i, st => if i < s.size then (if (nxt st (bt s i)).2 = true then (if (nxt st (bt s i)).1 = 5 then (i + 1, 0) else scanP k s (i + 1) (nxt st (bt s i)).1) else (i, 2)) else (i, 4)
def fldOf (s : ByteArray) : Fld := ⟨parseF s, parseV s⟩
def fieldsOf : List (Nat × ByteArray) → List Fld
  | [] => []
  | x :: l => if x.2.size = 0 then [] else fldOf x.2 :: fieldsOf l
def scanR (s : ByteArray) : List Fld × Int × Int :=
  if (scanP (s.size + 1) s 0 0).2 = 0 then (fieldsOf (linesOf ((s.extract 0 (scanP (s.size + 1) s 0 0).1).size + 1) (s.extract 0 (scanP (s.size + 1) s 0 0).1) 0), (((scanP (s.size + 1) s 0 0).1 : Nat) : Int), 0)
  else ([], (((scanP (s.size + 1) s 0 0).1 : Nat) : Int), (scanP (s.size + 1) s 0 0).2)
def block_Scan.f (a0 : ByteArray) : Option ((List S53) × Int × Int) := if a0.size < 4000000000 then some (scanR a0) else none
end Go.Proofs.YtmmbpbgcobmifaaDoorH
end
section
namespace Go.Proofs.YtmmbpbgcobmifaaDoor.Pr
end Go.Proofs.YtmmbpbgcobmifaaDoor.Pr
namespace Go.Proofs.YtmmbpbgcobmifaaDoorH
open Go Go.RowKit Go.Proofs.YtmmbpbgcobmifaaDoorW.PrintWords Go.Proofs.YtmmbpbgcobmifaaDoorW.PrintLast Go.Proofs.YtmmbpbgcobmifaaDoorW.PrintMore Go.Proofs.YtmmbpbgcobmifaaDoor.Pr Go.Proofs.YtmmbpbgcobmifaaDoorM
def secQ (r : List Int) (e1 e2 : Nat) (a : Nat) (q : List Fld × Int × Int) : RM (List Fld) :=
  if 0 ≤ beyL e1 e2 (linesB (r.take q.2.1.toNat)) 0 0 then .error (a + (beyL e1 e2 (linesB (r.take q.2.1.toNat)) 0 0).toNat, 5)
  else if q.2.2 = 0 then .ok (q.1, a + q.2.1.toNat) else .error (a + q.2.1.toNat, q.2.2)
def secM (s : List Int) (e1 e2 : Nat) (a : Nat) : RM (List Fld) := secQ (s.drop a) e1 e2 a (scanR (strOfNums (s.drop a)))
theorem AtR.below {w W W1 : World} {B b : Nat} {A : Option Addr} {n c : Nat} {e0 e1 e2 : Int} {a : Nat} {dv : Value} {D : List Int} (h : AtR w W B b A n c e0 e1 e2 a dv D) (hB : B ≤ b) (hb : Below W.heap.size W W1) : AtR w W1 B b A n c e0 e1 e2 a dv D :=
  h.only hB (h.i.below hb) (Only.of_below hb (Nat.le_of_lt h.i.lt))
end Go.Proofs.YtmmbpbgcobmifaaDoorH
end
section
namespace Go.Proofs.YtmmbpbgcobmifaaDoorH
open Go.RowKit Go.Proofs.YtmmbpbgcobmifaaDoorW.PrintWords Go.Proofs.YtmmbpbgcobmifaaDoorW.PrintLast Go.Proofs.YtmmbpbgcobmifaaDoorW.PrintMore
theorem at_i64 {w : World} {A : Option Addr} {n : Nat} {xs : List Int} (h : Kd.C (Kd.int .i64) w A n xs) (k : Nat) (hk : k < n) : ∃ ad, A = some ad ∧ w.cell? (ad.add k) = some (.int .i64 (xs.getD k 0)) := by
  obtain ⟨ad, c, e, _, hK, hc0⟩ := Kd.C_get h 0 (k : Int) (by omega) (by omega)
  have hc : ∀ j u, c[j]? = some u → w.cell? (ad.add ((k : Int).toNat * 1 + j)) = some u := hc0
  rw [Int.toNat_natCast] at hK hc
  have hK : c = [.int .i64 (xs.getD k 0)] := hK
  subst hK
  refine ⟨ad, e, ?_⟩
  have := hc 0 _ rfl
  rwa [Nat.mul_one, Nat.add_zero] at this
def minZ (l : List Int) : Int := (l.drop 1).foldl min (l.getD 0 0)
def maxZ (l : List Int) : Int := (l.drop 1).foldl max (l.getD 0 0)
def minToZ (l : List Int) (k : Nat) : Int := ((l.take k).drop 1).foldl min (l.getD 0 0)
def maxToZ (l : List Int) (k : Nat) : Int := ((l.take k).drop 1).foldl max (l.getD 0 0)
theorem drop_take_stepZ (l : List Int) (k : Nat) (h1 : 1 ≤ k) (h : k < l.length) : (l.take (k + 1)).drop 1 = (l.take k).drop 1 ++ [l.getD k 0] := by
  rw [take_one l 0 k h, List.drop_append_of_le_length (by rw [List.length_take]; omega)]
theorem minToZ_step (l : List Int) (k : Nat) (h1 : 1 ≤ k) (h : k < l.length) : minToZ l (k + 1) = min (minToZ l k) (l.getD k 0) := by
  unfold minToZ
  rw [drop_take_stepZ l k h1 h, List.foldl_append]
  rfl
theorem maxToZ_step (l : List Int) (k : Nat) (h1 : 1 ≤ k) (h : k < l.length) : maxToZ l (k + 1) = max (maxToZ l k) (l.getD k 0) := by
  unfold maxToZ
  rw [drop_take_stepZ l k h1 h, List.foldl_append]
  rfl
set_option maxHeartbeats 800000 in
set_option maxRecDepth 100000 in
theorem minZ_calls (A0 : Option Addr) (c0 : Nat) (l : List Int) (w : World) (hr : Kd.C (Kd.int .i64) w A0 l.length l) (hn : 0 < l.length) (hl : l.length < 8796093022208) :
    Calls Tryd.prog 49 #[.slice A0 l.length c0] w fun e w' => e = .returned (.int .i64 (minZ l)) ∧ w' = w := by
  obtain ⟨ad, e, hx0⟩ := at_i64 hr 0 hn
  subst e
  rw [show ad.add 0 = ad from rfl] at hx0
  have HR := Aside0.mk hr
  have hn1 : ¬ (l.length : Int) < 1 := by omega
  clear hr
  go_enter Tryd.func49, Tryd.ntmps49
  go_wp2
  go_loop [3, 4] (fun v3 v4 => ∃ k : Nat, 1 ≤ k ∧ k ≤ l.length ∧ v4 = .int .i64 k ∧ v3 = .int .i64 (minToZ l k)) (fun _ v4 => l.length - (intOf v4).toNat)
  case atStart => exact ⟨1, Nat.le_refl _, hn, rfl, congrArg (Value.int IntKind.i64) (by unfold minToZ; cases l with | nil => exact absurd hn (Nat.lt_irrefl _) | cons a l => rfl)⟩
  case round =>
    obtain ⟨k, h1, hk, rfl, rfl⟩ := hrel
    by_cases hlt : k < l.length
    · obtain ⟨ad', e, hxk⟩ := at_i64 HR.out k hlt
      cases e
      have HS := Aside0.mk (minToZ_step l k h1 hlt)
      generalize l.getD k 0 = y at *
      generalize hmk : minToZ l k = m at *
      go_wp2
      go_round
      case rel => exact ⟨k + 1, by omega, hlt, by go_num, by rw [HS.out]⟩
      case measure => simp [intOf]; omega
    · obtain rfl : k = l.length := by omega
      have HM := Aside0.mk (show minToZ l l.length = minZ l by unfold minToZ minZ; rw [List.take_length])
      go_wp2
      go_ret
      exact ⟨by first | rfl | (simp; done) | (rw [HM.out]; first | rfl | simp), rfl⟩
set_option maxHeartbeats 800000 in
set_option maxRecDepth 100000 in
theorem maxZ_calls (A0 : Option Addr) (c0 : Nat) (l : List Int) (w : World) (hr : Kd.C (Kd.int .i64) w A0 l.length l) (hn : 0 < l.length) (hl : l.length < 8796093022208) :
    Calls Tryd.prog 50 #[.slice A0 l.length c0] w fun e w' => e = .returned (.int .i64 (maxZ l)) ∧ w' = w := by
  obtain ⟨ad, e, hx0⟩ := at_i64 hr 0 hn
  subst e
  rw [show ad.add 0 = ad from rfl] at hx0
  have HR := Aside0.mk hr
  have hn1 : ¬ (l.length : Int) < 1 := by omega
  clear hr
  go_enter Tryd.func50, Tryd.ntmps50
  go_wp2
  go_loop [3, 4] (fun v3 v4 => ∃ k : Nat, 1 ≤ k ∧ k ≤ l.length ∧ v4 = .int .i64 k ∧ v3 = .int .i64 (maxToZ l k)) (fun _ v4 => l.length - (intOf v4).toNat)
  case atStart => exact ⟨1, Nat.le_refl _, hn, rfl, congrArg (Value.int IntKind.i64) (by unfold maxToZ; cases l with | nil => exact absurd hn (Nat.lt_irrefl _) | cons a l => rfl)⟩
  case round =>
    obtain ⟨k, h1, hk, rfl, rfl⟩ := hrel
    by_cases hlt : k < l.length
    · obtain ⟨ad', e, hxk⟩ := at_i64 HR.out k hlt
      cases e
      have HS := Aside0.mk (maxToZ_step l k h1 hlt)
      generalize l.getD k 0 = y at *
      generalize hmk : maxToZ l k = m at *
      go_wp2
      go_round
      case rel => exact ⟨k + 1, by omega, hlt, by go_num, by rw [HS.out]⟩
      case measure => simp [intOf]; omega
    · obtain rfl : k = l.length := by omega
      have HM := Aside0.mk (show maxToZ l l.length = maxZ l by unfold maxToZ maxZ; rw [List.take_length])
      go_wp2
      go_ret
      exact ⟨by first | rfl | (simp; done) | (rw [HM.out]; first | rfl | simp), rfl⟩
end Go.Proofs.YtmmbpbgcobmifaaDoorH
end
section
namespace Go.Proofs.YtmmbpbgcobmifaaDoorH
open Go.RowKit Go.Proofs.YtmmbpbgcobmifaaDoorW.PrintWords Go.Proofs.YtmmbpbgcobmifaaDoorW.PrintLast Go.Proofs.YtmmbpbgcobmifaaDoorW.PrintMore
def rightL (e0 e1 e2 : Int) : Bool := decide (0 ≤ e0) && decide (0 ≤ e1) && decide (0 ≤ e2) && decide (e0 ≤ 65536) && decide (e1 ≤ 65536) && decide (e2 ≤ 65536)
theorem minZ3 (a b c : Int) : minZ [a, b, c] = min (min a b) c := by simp [minZ, List.foldl]
theorem maxZ3 (a b c : Int) : maxZ [a, b, c] = max (max a b) c := by simp [maxZ, List.foldl]
theorem rightL_eq (a b c : Int) : rightL a b c = (decide (0 ≤ minZ [a, b, c]) && decide (maxZ [a, b, c] ≤ 65536)) := by
  rw [minZ3, maxZ3]
  unfold rightL
  rw [Bool.eq_iff_iff]
  simp only [Bool.and_eq_true, decide_eq_true_eq]
  omega
theorem C_three {W : World} {b : Nat} (a1 a2 a3 : Int) (h : W.heap[b]? = some (.cells #[.int .i64 a1, .int .i64 a2, .int .i64 a3] 3 (0, 0))) : Kd.C (Kd.int .i64) W (some ⟨b, 0, none⟩) ([a1, a2, a3] : List Int).length [a1, a2, a3] := by
  refine ⟨rfl, (show (3 : Nat) ≤ 9223372036854775807 by decide), fun _ => ⟨_, rfl, fun j x hx => ?_⟩⟩
  refine ⟨[.int .i64 x], rfl, rfl, fun i u hu => ?_⟩
  have e : i = 0 ∧ .int .i64 x = u := by
    cases i with
    | zero => exact ⟨rfl, by simpa using hu⟩
    | succ i => simp at hu
  obtain ⟨rfl, rfl⟩ := e
  match j, hx with
  | 0, hx => cases hx; exact World.news_of_block h 0 _ rfl
  | 1, hx => cases hx; exact World.news_of_block h 1 _ rfl
  | 2, hx => cases hx; exact World.news_of_block h 2 _ rfl
  | j + 3, hx => simp at hx
set_option maxHeartbeats 1600000 in
set_option maxRecDepth 100000 in
theorem bodyRight_calls (e0 e1 e2 : Int) (w : World) :
    Calls Tryd.prog 36 #[.agg #[.int .i64 e0, .int .i64 e1, .int .i64 e2]] w fun e w' => e = .returned (.bool (rightL e0 e1 e2)) ∧ Below w.heap.size w w' := by
  have HMI := Aside0.mk (fun W (h : W.heap[w.heap.size + 1]? = some (.cells #[.int .i64 e0, .int .i64 e1, .int .i64 e2] 3 (0, 0))) => minZ_calls (some ⟨w.heap.size + 1, 0, none⟩) 3 [e0, e1, e2] W (C_three e0 e1 e2 h) (show (0 : Nat) < 3 by decide) (show (3 : Nat) < 8796093022208 by decide))
  have HMA := Aside0.mk (fun W (h : W.heap[w.heap.size + 1]? = some (.cells #[.int .i64 e0, .int .i64 e1, .int .i64 e2] 3 (0, 0))) => maxZ_calls (some ⟨w.heap.size + 1, 0, none⟩) 3 [e0, e1, e2] W (C_three e0 e1 e2 h) (show (0 : Nat) < 3 by decide) (show (3 : Nat) < 8796093022208 by decide))
  have HE := Aside0.mk (rightL_eq e0 e1 e2)
  generalize minZ [e0, e1, e2] = x at *
  generalize maxZ [e0, e1, e2] = y at *
  have hb2 : ∀ o1 o2 : Obj, Below w.heap.size w ((w.alloc o1).alloc o2) := fun o1 o2 => below_alloc (below_alloc (Below.refl _ _) o1) o2
  have HB := Aside0.mk hb2
  clear hb2
  by_cases hx : 0 ≤ x
  · have hx' : decide (0 ≤ x) = true := decide_eq_true hx
    go_enter Tryd.func36, Tryd.ntmps36
    go_wp2_with fail
    refine (HMI.out _ (by simpa using heap_alloc_new (w.alloc _) _)).mono ?_
    rintro e w1 ⟨rfl, rfl⟩
    go_wp2_with fail
    refine (HMA.out _ (by simpa using heap_alloc_new (w.alloc _) _)).mono ?_
    rintro e w1 ⟨rfl, rfl⟩
    go_wp2
    go_ret
    refine ⟨?_, HB.out _ _⟩
    rw [HE.out, hx', Bool.true_and]
    rfl
  · have hx' : decide (0 ≤ x) = false := decide_eq_false hx
    go_enter Tryd.func36, Tryd.ntmps36
    go_wp2_with fail
    refine (HMI.out _ (by simpa using heap_alloc_new (w.alloc _) _)).mono ?_
    rintro e w1 ⟨rfl, rfl⟩
    go_wp2
    go_ret
    refine ⟨?_, HB.out _ _⟩
    rw [HE.out, hx', Bool.false_and]
    rfl
end Go.Proofs.YtmmbpbgcobmifaaDoorH
end
section
namespace Go.Proofs.YtmmbpbgcobmifaaDoor.Pr
end Go.Proofs.YtmmbpbgcobmifaaDoor.Pr
namespace Go.Proofs.YtmmbpbgcobmifaaDoorH
set_option linter.unusedVariables false
set_option linter.unusedSimpArgs false
open Go Go.RowKit Go.Proofs.YtmmbpbgcobmifaaDoorW.PrintWords Go.Proofs.YtmmbpbgcobmifaaDoorW.PrintLast Go.Proofs.YtmmbpbgcobmifaaDoorW.PrintMore Go.Proofs.YtmmbpbgcobmifaaDoor.Pr Go.Proofs.YtmmbpbgcobmifaaDoorM
def bodyM (s : List Int) (e0 e1 e2 : Nat) : RM (List Fld) × List Int := scannedM (secM s e1 e2) s (e0 : Int)
def RLF (B : Nat) (W : World) (v : Value) (l : List Fld) : Prop := Kd.R k53 53 W B (fun _ => True) v l
theorem RLF.far {B : Nat} {W W' : World} {v : Value} {l : List Fld} {g t : Nat} {cs : Array Value} (h : RLF B W v l) (hb : W.heap[g]? = some (.cells cs t (0, 0))) (ht : ∀ q, q ∈ 53 :: (k53).E → q ≠ t) (hm : ∀ k, ¬ k = g → W'.heap[k]? = W.heap[k]?) : RLF B W' v l :=
  Kd.R_mono (Kd.R_move (Kd.R_types h hb ht) (fun k hk => hm k hk.2)) (fun _ _ => trivial)
def toldM : RM (List Fld) × List Int → List Int × List Fld × Int × Int × Int
  | (.ok (l, a), D) => (D, l, (a : Int), (a : Int), 0)
  | (.error (a, er), _) => ([], [], 0, (a : Int), er)
def scanT (s : List Int) (e0 e1 e2 : Nat) : List Int × List Fld × Int × Int × Int := toldM (bodyM s e0 e1 e2)
def byteB (l : List Int) : Bool := l.all fun x => decide (0 ≤ x) && decide (x ≤ 255)
theorem byteB_iff {l : List Int} : byteB l = true ↔ ByteL l := by
  unfold byteB ByteL
  simp [List.all_eq_true]
theorem rightL_nat {a b c : Int} (h : rightL a b c = true) : ∃ x y z : Nat, a = (x : Int) ∧ b = (y : Int) ∧ c = (z : Int) ∧ x ≤ 65536 ∧ y ≤ 65536 ∧ z ≤ 65536 := by
  unfold rightL at h
  simp only [Bool.and_eq_true, decide_eq_true_eq] at h
  exact ⟨a.toNat, b.toNat, c.toNat, by omega, by omega, by omega, by omega, by omega, by omega⟩
def body_Right.f (a0 a1 a2 : Int) : Option Bool := some (rightL a0 a1 a2)
theorem body_Right.calls (a0_0 a0_1 a0_2 : Int) (r : Bool) (w : World) (hG : TabOk w) (h : body_Right.f a0_0 a0_1 a0_2 = some r) :
    Calls Tryd.prog 36 #[.agg #[.int .i64 a0_0, .int .i64 a0_1, .int .i64 a0_2]] w fun e w' => e = .returned (.bool r) ∧ Below w.heap.size w w' := by
  unfold body_Right.f at h
  injection h with h
  subst h
  exact bodyRight_calls _ _ _ w
def body_Scan.f (l0 : List Int) (a1_0 a1_1 a1_2 : Int) : Option (List Int × List S53 × Int × Int × Int) :=
  if l0.length ≤ 1073741824 ∧ byteB l0 = true then some (if rightL a1_0 a1_1 a1_2 = true then scanT l0 a1_0.toNat a1_1.toNat a1_2.toNat else ([], [], 0, 0, 1)) else none
def body_Payload.f (l0 : List Int) (a1_0 a1_1 a1_2 : Int) : Option (List Int) :=
  if l0.length ≤ 1073741824 ∧ byteB l0 = true then some (if rightL a1_0 a1_1 a1_2 = true then (bodyM l0 a1_0.toNat a1_1.toNat a1_2.toNat).2 else []) else none
end Go.Proofs.YtmmbpbgcobmifaaDoorH
end
section
namespace Go.Proofs.YtmmbpbgcobmifaaDoor.Pr
end Go.Proofs.YtmmbpbgcobmifaaDoor.Pr
namespace Go.Proofs.YtmmbpbgcobmifaaDoorH
set_option linter.unusedVariables false
set_option linter.unusedSimpArgs false
open Go.RowKit Go.Proofs.YtmmbpbgcobmifaaDoorW.PrintWords Go.Proofs.YtmmbpbgcobmifaaDoorW.PrintLast Go.Proofs.YtmmbpbgcobmifaaDoorW.PrintMore Go.Proofs.YtmmbpbgcobmifaaDoor.Pr Go.Proofs.YtmmbpbgcobmifaaDoorM
def pfM (l : List Int) : Fld := fldOf (strOfNums l)
def envM (e0 e1 e2 : Nat) : MEnv Fld := ⟨digI, textB, tokI, pfM, e0, e1, e2⟩
theorem all256 {p : Int → Prop} (h : ∀ n : Fin 256, p (n.val : Int)) {c : Int} (hc : 0 ≤ c ∧ c ≤ 255) : p c := by
  have := h ⟨c.toNat, by omega⟩
  rw [show ((⟨c.toNat, by omega⟩ : Fin 256).val : Int) = c by show (c.toNat : Int) = c; omega] at this
  exact this
end Go.Proofs.YtmmbpbgcobmifaaDoorH
end
section
namespace Go.Proofs.YtmmbpbgcobmifaaDoor.Pr
open Go.RowKit Go.Proofs.YtmmbpbgcobmifaaDoorH Go.Proofs.YtmmbpbgcobmifaaDoorW.PrintWords Go.Proofs.YtmmbpbgcobmifaaDoorW.PrintLast Go.Proofs.YtmmbpbgcobmifaaDoorW.PrintMore
attribute [local go_sem] max2_int min2_int max_two min_two max_three min_three max_four min_four   -- for this text's walks alone
set_option linter.unusedVariables false
set_option linter.unusedSimpArgs false
def catchpitref03_Same.l0 : Nat → List Int → List Int → Int → Option (Bool)
  | 0, _, _, _ => none
  | k + 1, x0, x1, x5 => if x5 < (x0.length : Int) then (if 0 ≤ x5 then (if x5 < (x1.length : Int) then (if (rd x0 x5) = (rd x1 x5) then (catchpitref03_Same.l0 k x0 x1 (wrap64 (x5 + 1))) else (some false)) else (none)) else (none)) else (some true)
def catchpitref03_Same.f (k : Nat) (l0 : List Int) (l1 : List Int) : Option (Bool) := if (l0.length : Int) = (l1.length : Int) then (catchpitref03_Same.l0 k l0 l1 0) else (some false)
theorem catchpitref03_Same.mono_l : ∀ k, (∀ y0 y1 y2, LeO (catchpitref03_Same.l0 k y0 y1 y2) (catchpitref03_Same.l0 (k + 1) y0 y1 y2))
  | 0 => fun _ _ _ r h => by simp [catchpitref03_Same.l0] at h
  | k + 1 => by
    have ih0 := catchpitref03_Same.mono_l k
    · intro y0 y1 y2
      unfold catchpitref03_Same.l0
      repeat' first
      | (with_reducible exact ih0 _ _ _)
      | (with_reducible exact LeO.refl _)
      | (with_reducible exact LeO.none _)
      | (with_reducible refine LeO.ite ?_ ?_)
      | (with_reducible refine LeO.bind ?_ (fun _ => ?_))
      | exact ih0 _ _ _
      | exact LeO.none _
      | refine LeO.ite ?_ ?_
      | refine LeO.bind ?_ (fun _ => ?_)
theorem catchpitref03_Same.mono : ∀ a0 a1 k, LeO (catchpitref03_Same.f k a0 a1) (catchpitref03_Same.f (k + 1) a0 a1) := by
  intro a0 a1 k
  have ih0 := catchpitref03_Same.mono_l k
  unfold catchpitref03_Same.f
  repeat' first
      | (with_reducible exact ih0 _ _ _)
      | (with_reducible exact LeO.refl _)
      | (with_reducible exact LeO.none _)
      | (with_reducible refine LeO.ite ?_ ?_)
      | (with_reducible refine LeO.bind ?_ (fun _ => ?_))
      | exact ih0 _ _ _
      | exact LeO.none _
      | refine LeO.ite ?_ ?_
      | refine LeO.bind ?_ (fun _ => ?_)
set_option maxHeartbeats 8000000 in
set_option maxRecDepth 100000 in
theorem catchpitref03_Same.calls (k : Nat) (A0 : Option Addr) (c0 : Nat) (l0 : List Int) (A1 : Option Addr) (c1 : Nat) (l1 : List Int) (r : Bool) (w : World) (hr0 : Kd.C (Kd.int .u8) w A0 l0.length l0) (hc0 : l0.length ≤ c0) (hr1 : Kd.C (Kd.int .u8) w A1 l1.length l1) (hc1 : l1.length ≤ c1) (hG : TabOk w) (h : catchpitref03_Same.f k l0 l1 = some r) :
    Calls Tryd.prog 41 #[.slice A0 l0.length c0, .slice A1 l1.length c1] w fun e w' => e = .returned (.bool r) ∧ Drawn0 w w' := by
  have HR0 := Aside0.mk hr0
  have HC0 := Aside0.mk hc0
  clear hr0 hc0
  have HR1 := Aside0.mk hr1
  have HC1 := Aside0.mk hc1
  clear hr1 hc1
  have H : (if (l0.length : Int) = (l1.length : Int) then (catchpitref03_Same.l0 k l0 l1 0) else (some false)) = some r := h
  clear h
  by_cases c3 : (l0.length : Int) = (l1.length : Int)
  · rw [if_pos c3] at H
    have c3b0 : ((l0.length : Int) == (l1.length : Int)) = true := beq_iff_eq.mpr c3
    have c3b1 : ((l0.length : Int) != (l1.length : Int)) = false := bne_eq_false_iff_eq.mpr c3
    have c3b2 : (l0.length == l1.length) = true := by first | simpa using c3 | (simp at c3 ⊢; omega)
    clear c3
    have H' := Aside0.mk H
    clear H
    go_enter Tryd.func41, Tryd.ntmps41
    go_wp2
    repeat (go_quiet (fail); try go_wp2)
    go_loopg [5] k (fun kq v5 w' => ∃ (x5_1 : Int), v5 = .int .i64 x5_1 ∧ Aside0 (catchpitref03_Same.l0 kq l0 l1 x5_1 = some r) ∧ Aside0 (kq ≤ k) ∧ Drawn0 w w')
    case atStart => exact ⟨(0), (by first | rfl | (simp; done) | (simp [*]; done)), H', ⟨Nat.le_refl _⟩, by repeat (first | exact Drawn0.refl _ | apply Drawn0.step)⟩
    case round =>
      clear H'
      try clear c1
      try clear p2
      try clear c3
      try clear c3b0
      try clear c3b1
      try clear c3b2
      obtain ⟨x5_1, rfl, HA, HK1, ⟨m1, rfl⟩⟩ := hrel
      cases gk with
      | zero => exact absurd HA.out (by simp [catchpitref03_Same.l0])
      | succ k1 =>
        have H := HA.out
        clear HA
        simp only [catchpitref03_Same.l0] at H
        by_cases c4 : x5_1 < (l0.length : Int)
        · rw [if_pos c4] at H
          have c4b0 : decide (x5_1 < (l0.length : Int)) = true := decide_eq_true c4
          clear c4
          by_cases c5 : 0 ≤ x5_1
          · rw [if_pos c5] at H
            have c5b0 : decide (0 ≤ x5_1) = true := decide_eq_true c5
            clear c5
            by_cases c6 : x5_1 < (l1.length : Int)
            · rw [if_pos c6] at H
              have c6b0 : decide (x5_1 < (l1.length : Int)) = true := decide_eq_true c6
              clear c6
              by_cases c7 : (rd l0 x5_1) = (rd l1 x5_1)
              · rw [if_pos c7] at H
                have c7b0 : ((rd l0 x5_1) == (rd l1 x5_1)) = true := beq_iff_eq.mpr c7
                have c7b1 : ((rd l0 x5_1) != (rd l1 x5_1)) = false := bne_eq_false_iff_eq.mpr c7
                clear c7
                have H' := Aside0.mk H
                clear H
                have p151 : 0 ≤ (x5_1 : Int) := of_decide_eq_true (by first | (with_reducible assumption) | assumption)
                have q151 : x5_1 < (l0.length : Int) := of_decide_eq_true (by first | (with_reducible assumption) | assumption)
                obtain ⟨ad151, e151, hx151_0⟩ := Kd.at_int HR0.out x5_1 p151 q151
                cases e151
                replace p151 := eq_true p151
                replace q151 := eq_true q151
                have p152 : 0 ≤ (x5_1 : Int) := of_decide_eq_true (by first | (with_reducible assumption) | assumption)
                have q152 : x5_1 < (l1.length : Int) := of_decide_eq_true (by first | (with_reducible assumption) | assumption)
                obtain ⟨ad152, e152, hx152_0⟩ := Kd.at_int HR1.out x5_1 p152 q152
                cases e152
                replace p152 := eq_true p152
                replace q152 := eq_true q152
                go_wp2
                repeat (go_quiet (fail); try go_wp2)
                go_roundg k1
                case measure => have := HK1.out; omega
                case rel => exact ⟨(wrap64 (x5_1 + 1)), (by first | rfl | (simp; done) | (simp [*]; done)), H', ⟨by have := HK1.out; omega⟩, by repeat (first | exact Drawn0.refl _ | apply Drawn0.step)⟩
              · rw [if_neg c7] at H
                have c7b0 : ((rd l0 x5_1) == (rd l1 x5_1)) = false := beq_eq_false_iff_ne.mpr c7
                have c7b1 : ((rd l0 x5_1) != (rd l1 x5_1)) = true := bne_iff_ne.mpr c7
                obtain rfl := Option.some.inj H
                have p151 : 0 ≤ (x5_1 : Int) := of_decide_eq_true (by first | (with_reducible assumption) | assumption)
                have q151 : x5_1 < (l0.length : Int) := of_decide_eq_true (by first | (with_reducible assumption) | assumption)
                obtain ⟨ad151, e151, hx151_0⟩ := Kd.at_int HR0.out x5_1 p151 q151
                cases e151
                replace p151 := eq_true p151
                replace q151 := eq_true q151
                have p152 : 0 ≤ (x5_1 : Int) := of_decide_eq_true (by first | (with_reducible assumption) | assumption)
                have q152 : x5_1 < (l1.length : Int) := of_decide_eq_true (by first | (with_reducible assumption) | assumption)
                obtain ⟨ad152, e152, hx152_0⟩ := Kd.at_int HR1.out x5_1 p152 q152
                cases e152
                replace p152 := eq_true p152
                replace q152 := eq_true q152
                go_wp2
                repeat (go_quiet (fail); try go_wp2)
                go_ret
                exact ⟨by first | rfl | (simp; done) | (simp [*]; done), by repeat (first | exact Drawn0.refl _ | apply Drawn0.step)⟩
            · rw [if_neg c6] at H
              exact absurd H (by simp)
          · rw [if_neg c5] at H
            exact absurd H (by simp)
        · rw [if_neg c4] at H
          have c4b0 : decide (x5_1 < (l0.length : Int)) = false := decide_eq_false c4
          clear c4
          obtain rfl := Option.some.inj H
          go_wp2
          repeat (go_quiet (fail); try go_wp2)
          go_ret
          exact ⟨by first | rfl | (simp; done) | (simp [*]; done), by repeat (first | exact Drawn0.refl _ | apply Drawn0.step)⟩
  · rw [if_neg c3] at H
    have c3b0 : ((l0.length : Int) == (l1.length : Int)) = false := beq_eq_false_iff_ne.mpr c3
    have c3b1 : ((l0.length : Int) != (l1.length : Int)) = true := bne_iff_ne.mpr c3
    have c3b2 : (l0.length == l1.length) = false := by first | simpa using c3 | (simp at c3 ⊢; omega)
    obtain rfl := Option.some.inj H
    go_enter Tryd.func41, Tryd.ntmps41
    go_wp2
    repeat (go_quiet (fail); try go_wp2)
    go_ret
    exact ⟨by first | rfl | (simp; done) | (simp [*]; done), by repeat (first | exact Drawn0.refl _ | apply Drawn0.step)⟩
end Go.Proofs.YtmmbpbgcobmifaaDoor.Pr
end
section
namespace Go.Proofs.YtmmbpbgcobmifaaDoor.Pr
open Go.RowKit Go.Proofs.YtmmbpbgcobmifaaDoorH Go.Proofs.YtmmbpbgcobmifaaDoorW.PrintWords Go.Proofs.YtmmbpbgcobmifaaDoorW.PrintLast Go.Proofs.YtmmbpbgcobmifaaDoorW.PrintMore
attribute [local go_sem] max2_int min2_int max_two min_two max_three min_three max_four min_four   -- for this text's walks alone
set_option linter.unusedVariables false
set_option linter.unusedSimpArgs false
theorem eqA53 (d : Nat) (w : World) (x0 y0 : ByteArray) (x1 y1 : ByteArray) :
    (Op.equalIn (d + 2) 53 (.agg #[.string x0, .string x1]) (.agg #[.string y0, .string y1])).run Tryd.prog w = .ok (x0.toList == y0.toList && (x1.toList == y1.toList)) w := by
  refine eqA_of Tryd.underlying53 (by kernel_rfl) ?_
  refine eqf_cons (by rfl) (by go_simp; rfl) (by go_simp; rfl) (by go_simp) ?_
  exact eqf_last (by rfl) (by go_simp; rfl) (by go_simp; rfl) (by go_simp)
end Go.Proofs.YtmmbpbgcobmifaaDoor.Pr
end
section
namespace Go.Proofs.YtmmbpbgcobmifaaDoor.Pr
open Go.RowKit Go.Proofs.YtmmbpbgcobmifaaDoorH Go.Proofs.YtmmbpbgcobmifaaDoorW.PrintWords Go.Proofs.YtmmbpbgcobmifaaDoorW.PrintLast Go.Proofs.YtmmbpbgcobmifaaDoorW.PrintMore
attribute [local go_sem] max2_int min2_int max_two min_two max_three min_three max_four min_four   -- for this text's walks alone
set_option linter.unusedVariables false
set_option linter.unusedSimpArgs false
attribute [local go_sem high] eqA53
def catchpitref05_Fields.l0 : Nat → List (S53) → List (S53) → Int → Option (Bool)
  | 0, _, _, _ => none
  | k + 1, x0, x1, x5 => if x5 < (x0.length : Int) then (if 0 ≤ x5 then (if x5 < (x1.length : Int) then (if (!((((rd_T53 x0 x5).f0).toList) == (((rd_T53 x1 x5).f0).toList)) || (!((((rd_T53 x0 x5).f1).toList) == (((rd_T53 x1 x5).f1).toList)))) = true then (some false) else (catchpitref05_Fields.l0 k x0 x1 (wrap64 (x5 + 1)))) else (none)) else (none)) else (some true)
def catchpitref05_Fields.f (k : Nat) (l0 : List (S53)) (l1 : List (S53)) : Option (Bool) := if (l0.length : Int) = (l1.length : Int) then (catchpitref05_Fields.l0 k l0 l1 0) else (some false)
theorem catchpitref05_Fields.mono_l : ∀ k, (∀ y0 y1 y2, LeO (catchpitref05_Fields.l0 k y0 y1 y2) (catchpitref05_Fields.l0 (k + 1) y0 y1 y2))
  | 0 => fun _ _ _ r h => by simp [catchpitref05_Fields.l0] at h
  | k + 1 => by
    have ih0 := catchpitref05_Fields.mono_l k
    · intro y0 y1 y2
      unfold catchpitref05_Fields.l0
      repeat' first
      | (with_reducible exact ih0 _ _ _)
      | (with_reducible exact LeO.refl _)
      | (with_reducible exact LeO.none _)
      | (with_reducible refine LeO.ite ?_ ?_)
      | (with_reducible refine LeO.bind ?_ (fun _ => ?_))
      | exact ih0 _ _ _
      | exact LeO.none _
      | refine LeO.ite ?_ ?_
      | refine LeO.bind ?_ (fun _ => ?_)
theorem catchpitref05_Fields.mono : ∀ a0 a1 k, LeO (catchpitref05_Fields.f k a0 a1) (catchpitref05_Fields.f (k + 1) a0 a1) := by
  intro a0 a1 k
  have ih0 := catchpitref05_Fields.mono_l k
  unfold catchpitref05_Fields.f
  repeat' first
      | (with_reducible exact ih0 _ _ _)
      | (with_reducible exact LeO.refl _)
      | (with_reducible exact LeO.none _)
      | (with_reducible refine LeO.ite ?_ ?_)
      | (with_reducible refine LeO.bind ?_ (fun _ => ?_))
      | exact ih0 _ _ _
      | exact LeO.none _
      | refine LeO.ite ?_ ?_
      | refine LeO.bind ?_ (fun _ => ?_)
set_option maxHeartbeats 8000000 in
set_option maxRecDepth 100000 in
theorem catchpitref05_Fields.calls (k : Nat) (A0 : Option Addr) (c0 : Nat) (l0 : List (S53)) (A1 : Option Addr) (c1 : Nat) (l1 : List (S53)) (r : Bool) (w : World) (hr0 : Kd.C k53 w A0 l0.length l0) (hc0 : l0.length ≤ c0) (hr1 : Kd.C k53 w A1 l1.length l1) (hc1 : l1.length ≤ c1) (hG : TabOk w) (h : catchpitref05_Fields.f k l0 l1 = some r) :
    Calls Tryd.prog 24 #[.slice A0 l0.length c0, .slice A1 l1.length c1] w fun e w' => e = .returned (.bool r) ∧ Drawn0 w w' := by
  have hu53 := Tryd.underlying53
  have HR0 := Aside0.mk hr0
  have HC0 := Aside0.mk hc0
  clear hr0 hc0
  have HR1 := Aside0.mk hr1
  have HC1 := Aside0.mk hc1
  clear hr1 hc1
  have H : (if (l0.length : Int) = (l1.length : Int) then (catchpitref05_Fields.l0 k l0 l1 0) else (some false)) = some r := h
  clear h
  by_cases c3 : (l0.length : Int) = (l1.length : Int)
  · rw [if_pos c3] at H
    have c3b0 : ((l0.length : Int) == (l1.length : Int)) = true := beq_iff_eq.mpr c3
    have c3b1 : ((l0.length : Int) != (l1.length : Int)) = false := bne_eq_false_iff_eq.mpr c3
    have c3b2 : (l0.length == l1.length) = true := by first | simpa using c3 | (simp at c3 ⊢; omega)
    clear c3
    have H' := Aside0.mk H
    clear H
    go_enter Tryd.func24, Tryd.ntmps24
    go_wp2
    repeat (go_quiet (fail); try go_wp2)
    go_loopg [5] k (fun kq v5 w' => ∃ (x5_1 : Int), v5 = .int .i64 x5_1 ∧ Aside0 (catchpitref05_Fields.l0 kq l0 l1 x5_1 = some r) ∧ Aside0 (kq ≤ k) ∧ Drawn0 w w')
    case atStart => exact ⟨(0), (by first | rfl | (simp; done) | (simp [*]; done)), H', ⟨Nat.le_refl _⟩, by repeat (first | exact Drawn0.refl _ | apply Drawn0.step)⟩
    case round =>
      clear H'
      try clear c1
      try clear c2
      try clear p2
      try clear c3
      try clear c3b0
      try clear c3b1
      try clear c3b2
      obtain ⟨x5_1, rfl, HA, HK1, ⟨m1, rfl⟩⟩ := hrel
      cases gk with
      | zero => exact absurd HA.out (by simp [catchpitref05_Fields.l0])
      | succ k1 =>
        have H := HA.out
        clear HA
        simp only [catchpitref05_Fields.l0] at H
        by_cases c4 : x5_1 < (l0.length : Int)
        · rw [if_pos c4] at H
          have c4b0 : decide (x5_1 < (l0.length : Int)) = true := decide_eq_true c4
          clear c4
          by_cases c5 : 0 ≤ x5_1
          · rw [if_pos c5] at H
            have c5b0 : decide (0 ≤ x5_1) = true := decide_eq_true c5
            clear c5
            by_cases c6 : x5_1 < (l1.length : Int)
            · rw [if_pos c6] at H
              have c6b0 : decide (x5_1 < (l1.length : Int)) = true := decide_eq_true c6
              clear c6
              by_cases c7 : (!((((rd_T53 l0 x5_1).f0).toList) == (((rd_T53 l1 x5_1).f0).toList)) || (!((((rd_T53 l0 x5_1).f1).toList) == (((rd_T53 l1 x5_1).f1).toList)))) = true
              · rw [if_pos c7] at H
                have c7b0 : (!((((rd_T53 l0 x5_1).f0).toList) == (((rd_T53 l1 x5_1).f0).toList)) || (!((((rd_T53 l0 x5_1).f1).toList) == (((rd_T53 l1 x5_1).f1).toList)))) = true := c7
                clear c7
                obtain rfl := Option.some.inj H
                have p154 : 0 ≤ (x5_1 : Int) := of_decide_eq_true (by first | (with_reducible assumption) | assumption)
                have q154 : x5_1 < (l0.length : Int) := of_decide_eq_true (by first | (with_reducible assumption) | assumption)
                obtain ⟨ad154, e154, hx154_0, hx154_1⟩ := at_T53 HR0.out x5_1 p154 q154
                cases e154
                replace p154 := eq_true p154
                replace q154 := eq_true q154
                have p155 : 0 ≤ (x5_1 : Int) := of_decide_eq_true (by first | (with_reducible assumption) | assumption)
                have q155 : x5_1 < (l1.length : Int) := of_decide_eq_true (by first | (with_reducible assumption) | assumption)
                obtain ⟨ad155, e155, hx155_0, hx155_1⟩ := at_T53 HR1.out x5_1 p155 q155
                cases e155
                replace p155 := eq_true p155
                replace q155 := eq_true q155
                go_wp2
                repeat (go_quiet (fail); try go_wp2)
                go_ret
                exact ⟨by first | rfl | (simp; done) | (simp [*]; done), by repeat (first | exact Drawn0.refl _ | apply Drawn0.step)⟩
              · rw [if_neg c7] at H
                have c7b0 : (!((((rd_T53 l0 x5_1).f0).toList) == (((rd_T53 l1 x5_1).f0).toList)) || (!((((rd_T53 l0 x5_1).f1).toList) == (((rd_T53 l1 x5_1).f1).toList)))) = false := by simpa using c7
                clear c7
                have H' := Aside0.mk H
                clear H
                have p154 : 0 ≤ (x5_1 : Int) := of_decide_eq_true (by first | (with_reducible assumption) | assumption)
                have q154 : x5_1 < (l0.length : Int) := of_decide_eq_true (by first | (with_reducible assumption) | assumption)
                obtain ⟨ad154, e154, hx154_0, hx154_1⟩ := at_T53 HR0.out x5_1 p154 q154
                cases e154
                replace p154 := eq_true p154
                replace q154 := eq_true q154
                have p155 : 0 ≤ (x5_1 : Int) := of_decide_eq_true (by first | (with_reducible assumption) | assumption)
                have q155 : x5_1 < (l1.length : Int) := of_decide_eq_true (by first | (with_reducible assumption) | assumption)
                obtain ⟨ad155, e155, hx155_0, hx155_1⟩ := at_T53 HR1.out x5_1 p155 q155
                cases e155
                replace p155 := eq_true p155
                replace q155 := eq_true q155
                go_wp2
                repeat (go_quiet (fail); try go_wp2)
                go_roundg k1
                case measure => have := HK1.out; omega
                case rel => exact ⟨(wrap64 (x5_1 + 1)), (by first | rfl | (simp; done) | (simp [*]; done)), H', ⟨by have := HK1.out; omega⟩, by repeat (first | exact Drawn0.refl _ | apply Drawn0.step)⟩
            · rw [if_neg c6] at H
              exact absurd H (by simp)
          · rw [if_neg c5] at H
            exact absurd H (by simp)
        · rw [if_neg c4] at H
          have c4b0 : decide (x5_1 < (l0.length : Int)) = false := decide_eq_false c4
          clear c4
          obtain rfl := Option.some.inj H
          go_wp2
          repeat (go_quiet (fail); try go_wp2)
          go_ret
          exact ⟨by first | rfl | (simp; done) | (simp [*]; done), by repeat (first | exact Drawn0.refl _ | apply Drawn0.step)⟩
  · rw [if_neg c3] at H
    have c3b0 : ((l0.length : Int) == (l1.length : Int)) = false := beq_eq_false_iff_ne.mpr c3
    have c3b1 : ((l0.length : Int) != (l1.length : Int)) = true := bne_iff_ne.mpr c3
    have c3b2 : (l0.length == l1.length) = false := by first | simpa using c3 | (simp at c3 ⊢; omega)
    obtain rfl := Option.some.inj H
    go_enter Tryd.func24, Tryd.ntmps24
    go_wp2
    repeat (go_quiet (fail); try go_wp2)
    go_ret
    exact ⟨by first | rfl | (simp; done) | (simp [*]; done), by repeat (first | exact Drawn0.refl _ | apply Drawn0.step)⟩
end Go.Proofs.YtmmbpbgcobmifaaDoor.Pr
end
section
namespace Go.Proofs.YtmmbpbgcobmifaaDoor.Pr
open Go.RowKit Go.Proofs.YtmmbpbgcobmifaaDoorH Go.Proofs.YtmmbpbgcobmifaaDoorW.PrintWords Go.Proofs.YtmmbpbgcobmifaaDoorW.PrintLast Go.Proofs.YtmmbpbgcobmifaaDoorW.PrintMore
attribute [local go_sem] max2_int min2_int max_two min_two max_three min_three max_four min_four   -- for this text's walks alone
set_option linter.unusedVariables false
set_option linter.unusedSimpArgs false
def catchpitref08_Same.f (k : Nat) (l0 : List Int) (l1 : List Int) : Option (Bool) := (catchpitref03_Same.f k l0 l1).bind fun t153 => (some t153)
theorem catchpitref08_Same.mono : ∀ a0 a1 k, LeO (catchpitref08_Same.f k a0 a1) (catchpitref08_Same.f (k + 1) a0 a1) := by
  intro a0 a1 k
  unfold catchpitref08_Same.f
  repeat' first
      | (with_reducible exact catchpitref03_Same.mono _ _ _)
      | (with_reducible exact LeO.refl _)
      | (with_reducible exact LeO.none _)
      | (with_reducible refine LeO.ite ?_ ?_)
      | (with_reducible refine LeO.bind ?_ (fun _ => ?_))
      | exact catchpitref03_Same.mono _ _ _
      | exact LeO.none _
      | refine LeO.ite ?_ ?_
      | refine LeO.bind ?_ (fun _ => ?_)
set_option maxHeartbeats 8000000 in
set_option maxRecDepth 100000 in
theorem catchpitref08_Same.calls (k : Nat) (A0 : Option Addr) (c0 : Nat) (l0 : List Int) (A1 : Option Addr) (c1 : Nat) (l1 : List Int) (r : Bool) (w : World) (hr0 : Kd.C (Kd.int .u8) w A0 l0.length l0) (hc0 : l0.length ≤ c0) (hr1 : Kd.C (Kd.int .u8) w A1 l1.length l1) (hc1 : l1.length ≤ c1) (hG : TabOk w) (h : catchpitref08_Same.f k l0 l1 = some r) :
    Calls Tryd.prog 22 #[.slice A0 l0.length c0, .slice A1 l1.length c1] w fun e w' => e = .returned (.bool r) ∧ Drawn0 w w' := by
  have HR0 := Aside0.mk hr0
  have HC0 := Aside0.mk hc0
  clear hr0 hc0
  have HR1 := Aside0.mk hr1
  have HC1 := Aside0.mk hc1
  clear hr1 hc1
  have H : ((catchpitref03_Same.f k l0 l1).bind fun t153 => (some t153)) = some r := h
  clear h
  replace H := Option.bind_eq_some_iff.mp H
  obtain ⟨t153, A30, H⟩ := H
  replace H : (some t153) = some r := H
  have A3 := Aside0.mk A30
  clear A30
  obtain rfl := Option.some.inj H
  go_enter Tryd.func22, Tryd.ntmps22
  go_wp2_with (first | ((with_reducible refine gate_callee (f := 41) rfl ?_); refine goesL_ (some 7) rfl rfl Tryd.func41 (by kernel_rfl) rfl #[.slice A0 l0.length c0, .slice A1 l1.length c1] rfl (by (try simp only [List.map_toArray, List.map_cons, List.map_nil]); first | done | rfl | (simp only [List.length_drop, List.length_take]; rfl)) ?_; (with_reducible refine (catchpitref03_Same.calls k _ _ l0 _ _ l1 t153 _ ?side1 ?side2 ?side3 ?side4 ?side5 A3.out).mono ?_); (case side1 => repeat (first | exact HR0.out | (with_reducible refine Kd.C_alloc ?_ _) | (with_reducible refine Kd.C_drewN ?_ _) | (with_reducible refine Kd.C_drew ?_))); (case side2 => exact HC0.out); (case side3 => repeat (first | exact HR1.out | (with_reducible refine Kd.C_alloc ?_ _) | (with_reducible refine Kd.C_drewN ?_ _) | (with_reducible refine Kd.C_drew ?_))); (case side4 => exact HC1.out); (case side5 => first | exact hG | exact TabOk.drewN hG _ | exact TabOk.drewN (TabOk.drewN hG _) _ | exact TabOk.below hG (by repeat (first | (with_reducible first | exact HB.out | apply below_alloc | apply pw_below_drewN | apply below_drew1) | exact HB.out))); rintro e w' ⟨rfl, ⟨nd, rfl⟩⟩; refine ⟨_, rfl, ?_⟩))
  go_ret
  exact ⟨by first | rfl | (simp; done) | (simp [*]; done), by repeat (first | exact Drawn0.refl _ | apply Drawn0.step)⟩
end Go.Proofs.YtmmbpbgcobmifaaDoor.Pr
end
section
namespace Go.Proofs.YtmmbpbgcobmifaaDoor.Pr
open Go.RowKit Go.Proofs.YtmmbpbgcobmifaaDoorH Go.Proofs.YtmmbpbgcobmifaaDoorW.PrintWords Go.Proofs.YtmmbpbgcobmifaaDoorW.PrintLast Go.Proofs.YtmmbpbgcobmifaaDoorW.PrintMore
attribute [local go_sem] max2_int min2_int max_two min_two max_three min_three max_four min_four   -- for this text's walks alone
set_option linter.unusedVariables false
set_option linter.unusedSimpArgs false
def catchpitlaw08_same.f (k : Nat) (l0_0 : List Int) (l0_1 : List (S53)) (a0_2 : Int) (l1_0 : List Int) (l1_1 : List (S53)) (a1_2 : Int) : Option (Bool) := (catchpitref08_Same.f k l0_0 l1_0).bind fun t158 => (if t158 = true then ((catchpitref05_Fields.f k l0_1 l1_1).bind fun t159 => (if t159 = true then (some (a0_2 == a1_2)) else (some false))) else (some false))
theorem catchpitlaw08_same.mono : ∀ a0 a1 a2 a3 a4 a5 k, LeO (catchpitlaw08_same.f k a0 a1 a2 a3 a4 a5) (catchpitlaw08_same.f (k + 1) a0 a1 a2 a3 a4 a5) := by
  intro a0 a1 a2 a3 a4 a5 k
  unfold catchpitlaw08_same.f
  repeat' first
      | (with_reducible exact catchpitref05_Fields.mono _ _ _)
      | (with_reducible exact catchpitref08_Same.mono _ _ _)
      | (with_reducible exact LeO.refl _)
      | (with_reducible exact LeO.none _)
      | (with_reducible refine LeO.ite ?_ ?_)
      | (with_reducible refine LeO.bind ?_ (fun _ => ?_))
      | exact catchpitref05_Fields.mono _ _ _
      | exact catchpitref08_Same.mono _ _ _
      | exact LeO.none _
      | refine LeO.ite ?_ ?_
      | refine LeO.bind ?_ (fun _ => ?_)
end Go.Proofs.YtmmbpbgcobmifaaDoor.Pr
end
section
namespace Go.Proofs.YtmmbpbgcobmifaaDoor.Pr
open Go.RowKit Go.Proofs.YtmmbpbgcobmifaaDoorH Go.Proofs.YtmmbpbgcobmifaaDoorW.PrintWords Go.Proofs.YtmmbpbgcobmifaaDoorW.PrintLast Go.Proofs.YtmmbpbgcobmifaaDoorW.PrintMore
attribute [local go_sem] max2_int min2_int max_two min_two max_three min_three max_four min_four   -- for this text's walks alone
set_option linter.unusedVariables false
set_option linter.unusedSimpArgs false
def catchpitref08_Right.f (a0_0 : Int) (a0_1 : Int) (a0_2 : Int) : Option (Bool) := if a0_0 ≥ 0 then (if a0_0 ≤ 65536 then (if a0_1 ≥ 0 then (if a0_1 ≤ 65536 then (if a0_2 ≥ 0 then (some (decide (a0_2 ≤ 65536))) else (some false)) else (some false)) else (some false)) else (some false)) else (some false)
set_option maxHeartbeats 8000000 in
set_option maxRecDepth 100000 in
theorem catchpitref08_Right.calls (a0_0 : Int) (a0_1 : Int) (a0_2 : Int) (r : Bool) (w : World) (hG : TabOk w) (h : catchpitref08_Right.f a0_0 a0_1 a0_2 = some r) :
    Calls Tryd.prog 14 #[.agg #[.int .i64 a0_0, .int .i64 a0_1, .int .i64 a0_2]] w fun e w' => e = .returned (.bool r) ∧ Below w.heap.size w w' := by
  have hu23 := Tryd.underlying23
  have HB := Aside0.mk (Below.refl w.heap.size w)
  have H : (if a0_0 ≥ 0 then (if a0_0 ≤ 65536 then (if a0_1 ≥ 0 then (if a0_1 ≤ 65536 then (if a0_2 ≥ 0 then (some (decide (a0_2 ≤ 65536))) else (some false)) else (some false)) else (some false)) else (some false)) else (some false)) = some r := h
  clear h
  by_cases c2 : a0_0 ≥ 0
  · rw [if_pos c2] at H
    have c2b0 : decide (0 ≤ a0_0) = true := decide_eq_true c2
    clear c2
    by_cases c3 : a0_0 ≤ 65536
    · rw [if_pos c3] at H
      have c3b0 : decide (a0_0 ≤ 65536) = true := decide_eq_true c3
      clear c3
      by_cases c4 : a0_1 ≥ 0
      · rw [if_pos c4] at H
        have c4b0 : decide (0 ≤ a0_1) = true := decide_eq_true c4
        clear c4
        by_cases c5 : a0_1 ≤ 65536
        · rw [if_pos c5] at H
          have c5b0 : decide (a0_1 ≤ 65536) = true := decide_eq_true c5
          clear c5
          by_cases c6 : a0_2 ≥ 0
          · rw [if_pos c6] at H
            have c6b0 : decide (0 ≤ a0_2) = true := decide_eq_true c6
            clear c6
            obtain rfl := Option.some.inj H
            go_enter Tryd.func14, Tryd.ntmps14
            go_wp2_with (first | ((with_reducible refine gate_dst (N := 1) rfl ?_); refine box_event ?hg (N := 1) ?hd (cs := #[.int .i64 a0_0, .int .i64 a0_1, .int .i64 a0_2]) (t := 23) ?hr ?_; (case hd => rfl); (case hg => rfl); (case hr => first | (go_simp; done) | (go_simp; rfl)); intro gb164 hg w7 hbox hb; have n0_ := Aside0.mk (below_step (by repeat (first | (with_reducible first | exact HB.out | apply below_alloc | apply pw_below_drewN | apply below_drew1) | exact HB.out)) hb); have n1_ := Aside0.mk (hbox); have n2_ := Aside0.mk ((by rw [hg]; exact (below_size (by repeat (first | (with_reducible first | exact HB.out | apply below_alloc | apply pw_below_drewN | apply below_drew1) | exact HB.out))) : w.heap.size ≤ gb164)); have n3_ := Aside0.mk ((by rw [hg]; exact (below_size (by repeat (first | (with_reducible first | exact HB.out | apply below_alloc | apply pw_below_drewN | apply below_drew1) | exact HB.out))) : w.heap.size ≤ gb164)); clear HB; have HB := n0_; have BK164 := n1_; have GW164 := n2_; have GE164 := n3_; clear n0_ n1_ n2_ n3_; clear hb hbox hg; have hcz8_0 : w7.cell? ⟨gb164, 0, none⟩ = some (.int .i64 a0_0) := (blk_cell BK164.out 0).trans rfl; have hcz8_1 : w7.cell? ⟨gb164, 1, none⟩ = some (.int .i64 a0_1) := (blk_cell BK164.out 1).trans rfl; have hcz8_2 : w7.cell? ⟨gb164, 2, none⟩ = some (.int .i64 a0_2) := (blk_cell BK164.out 2).trans rfl; have hfz8_0 := blk_frozen BK164.out 0; have hfz8_1 := blk_frozen BK164.out 1; have hfz8_2 := blk_frozen BK164.out 2))
            go_ret
            exact ⟨by first | rfl | (simp [errW_none, errW_some] <;> rfl) | (simp [*, errW_none, errW_some] <;> rfl), by repeat (first | (with_reducible first | exact HB.out | apply below_alloc | apply pw_below_drewN | apply below_drew1 | refine below_set ?_ GE164.out) | exact HB.out)⟩
          · rw [if_neg c6] at H
            have c6b0 : decide (0 ≤ a0_2) = false := decide_eq_false c6
            clear c6
            obtain rfl := Option.some.inj H
            go_enter Tryd.func14, Tryd.ntmps14
            go_wp2_with (first | ((with_reducible refine gate_dst (N := 1) rfl ?_); refine box_event ?hg (N := 1) ?hd (cs := #[.int .i64 a0_0, .int .i64 a0_1, .int .i64 a0_2]) (t := 23) ?hr ?_; (case hd => rfl); (case hg => rfl); (case hr => first | (go_simp; done) | (go_simp; rfl)); intro gb164 hg w9 hbox hb; have n0_ := Aside0.mk (below_step (by repeat (first | (with_reducible first | exact HB.out | apply below_alloc | apply pw_below_drewN | apply below_drew1) | exact HB.out)) hb); have n1_ := Aside0.mk (hbox); have n2_ := Aside0.mk ((by rw [hg]; exact (below_size (by repeat (first | (with_reducible first | exact HB.out | apply below_alloc | apply pw_below_drewN | apply below_drew1) | exact HB.out))) : w.heap.size ≤ gb164)); have n3_ := Aside0.mk ((by rw [hg]; exact (below_size (by repeat (first | (with_reducible first | exact HB.out | apply below_alloc | apply pw_below_drewN | apply below_drew1) | exact HB.out))) : w.heap.size ≤ gb164)); clear HB; have HB := n0_; have BK164 := n1_; have GW164 := n2_; have GE164 := n3_; clear n0_ n1_ n2_ n3_; clear hb hbox hg; have hcz10_0 : w9.cell? ⟨gb164, 0, none⟩ = some (.int .i64 a0_0) := (blk_cell BK164.out 0).trans rfl; have hcz10_1 : w9.cell? ⟨gb164, 1, none⟩ = some (.int .i64 a0_1) := (blk_cell BK164.out 1).trans rfl; have hcz10_2 : w9.cell? ⟨gb164, 2, none⟩ = some (.int .i64 a0_2) := (blk_cell BK164.out 2).trans rfl; have hfz10_0 := blk_frozen BK164.out 0; have hfz10_1 := blk_frozen BK164.out 1; have hfz10_2 := blk_frozen BK164.out 2))
            go_ret
            exact ⟨by first | rfl | (simp [errW_none, errW_some] <;> rfl) | (simp [*, errW_none, errW_some] <;> rfl), by repeat (first | (with_reducible first | exact HB.out | apply below_alloc | apply pw_below_drewN | apply below_drew1 | refine below_set ?_ GE164.out) | exact HB.out)⟩
        · rw [if_neg c5] at H
          have c5b0 : decide (a0_1 ≤ 65536) = false := decide_eq_false c5
          clear c5
          obtain rfl := Option.some.inj H
          go_enter Tryd.func14, Tryd.ntmps14
          go_wp2_with (first | ((with_reducible refine gate_dst (N := 1) rfl ?_); refine box_event ?hg (N := 1) ?hd (cs := #[.int .i64 a0_0, .int .i64 a0_1, .int .i64 a0_2]) (t := 23) ?hr ?_; (case hd => rfl); (case hg => rfl); (case hr => first | (go_simp; done) | (go_simp; rfl)); intro gb164 hg w11 hbox hb; have n0_ := Aside0.mk (below_step (by repeat (first | (with_reducible first | exact HB.out | apply below_alloc | apply pw_below_drewN | apply below_drew1) | exact HB.out)) hb); have n1_ := Aside0.mk (hbox); have n2_ := Aside0.mk ((by rw [hg]; exact (below_size (by repeat (first | (with_reducible first | exact HB.out | apply below_alloc | apply pw_below_drewN | apply below_drew1) | exact HB.out))) : w.heap.size ≤ gb164)); have n3_ := Aside0.mk ((by rw [hg]; exact (below_size (by repeat (first | (with_reducible first | exact HB.out | apply below_alloc | apply pw_below_drewN | apply below_drew1) | exact HB.out))) : w.heap.size ≤ gb164)); clear HB; have HB := n0_; have BK164 := n1_; have GW164 := n2_; have GE164 := n3_; clear n0_ n1_ n2_ n3_; clear hb hbox hg; have hcz12_0 : w11.cell? ⟨gb164, 0, none⟩ = some (.int .i64 a0_0) := (blk_cell BK164.out 0).trans rfl; have hcz12_1 : w11.cell? ⟨gb164, 1, none⟩ = some (.int .i64 a0_1) := (blk_cell BK164.out 1).trans rfl; have hcz12_2 : w11.cell? ⟨gb164, 2, none⟩ = some (.int .i64 a0_2) := (blk_cell BK164.out 2).trans rfl; have hfz12_0 := blk_frozen BK164.out 0; have hfz12_1 := blk_frozen BK164.out 1; have hfz12_2 := blk_frozen BK164.out 2))
          go_ret
          exact ⟨by first | rfl | (simp [errW_none, errW_some] <;> rfl) | (simp [*, errW_none, errW_some] <;> rfl), by repeat (first | (with_reducible first | exact HB.out | apply below_alloc | apply pw_below_drewN | apply below_drew1 | refine below_set ?_ GE164.out) | exact HB.out)⟩
      · rw [if_neg c4] at H
        have c4b0 : decide (0 ≤ a0_1) = false := decide_eq_false c4
        clear c4
        obtain rfl := Option.some.inj H
        go_enter Tryd.func14, Tryd.ntmps14
        go_wp2_with (first | ((with_reducible refine gate_dst (N := 1) rfl ?_); refine box_event ?hg (N := 1) ?hd (cs := #[.int .i64 a0_0, .int .i64 a0_1, .int .i64 a0_2]) (t := 23) ?hr ?_; (case hd => rfl); (case hg => rfl); (case hr => first | (go_simp; done) | (go_simp; rfl)); intro gb164 hg w13 hbox hb; have n0_ := Aside0.mk (below_step (by repeat (first | (with_reducible first | exact HB.out | apply below_alloc | apply pw_below_drewN | apply below_drew1) | exact HB.out)) hb); have n1_ := Aside0.mk (hbox); have n2_ := Aside0.mk ((by rw [hg]; exact (below_size (by repeat (first | (with_reducible first | exact HB.out | apply below_alloc | apply pw_below_drewN | apply below_drew1) | exact HB.out))) : w.heap.size ≤ gb164)); have n3_ := Aside0.mk ((by rw [hg]; exact (below_size (by repeat (first | (with_reducible first | exact HB.out | apply below_alloc | apply pw_below_drewN | apply below_drew1) | exact HB.out))) : w.heap.size ≤ gb164)); clear HB; have HB := n0_; have BK164 := n1_; have GW164 := n2_; have GE164 := n3_; clear n0_ n1_ n2_ n3_; clear hb hbox hg; have hcz14_0 : w13.cell? ⟨gb164, 0, none⟩ = some (.int .i64 a0_0) := (blk_cell BK164.out 0).trans rfl; have hcz14_1 : w13.cell? ⟨gb164, 1, none⟩ = some (.int .i64 a0_1) := (blk_cell BK164.out 1).trans rfl; have hcz14_2 : w13.cell? ⟨gb164, 2, none⟩ = some (.int .i64 a0_2) := (blk_cell BK164.out 2).trans rfl; have hfz14_0 := blk_frozen BK164.out 0; have hfz14_1 := blk_frozen BK164.out 1; have hfz14_2 := blk_frozen BK164.out 2))
        go_ret
        exact ⟨by first | rfl | (simp [errW_none, errW_some] <;> rfl) | (simp [*, errW_none, errW_some] <;> rfl), by repeat (first | (with_reducible first | exact HB.out | apply below_alloc | apply pw_below_drewN | apply below_drew1 | refine below_set ?_ GE164.out) | exact HB.out)⟩
    · rw [if_neg c3] at H
      have c3b0 : decide (a0_0 ≤ 65536) = false := decide_eq_false c3
      clear c3
      obtain rfl := Option.some.inj H
      go_enter Tryd.func14, Tryd.ntmps14
      go_wp2_with (first | ((with_reducible refine gate_dst (N := 1) rfl ?_); refine box_event ?hg (N := 1) ?hd (cs := #[.int .i64 a0_0, .int .i64 a0_1, .int .i64 a0_2]) (t := 23) ?hr ?_; (case hd => rfl); (case hg => rfl); (case hr => first | (go_simp; done) | (go_simp; rfl)); intro gb164 hg w15 hbox hb; have n0_ := Aside0.mk (below_step (by repeat (first | (with_reducible first | exact HB.out | apply below_alloc | apply pw_below_drewN | apply below_drew1) | exact HB.out)) hb); have n1_ := Aside0.mk (hbox); have n2_ := Aside0.mk ((by rw [hg]; exact (below_size (by repeat (first | (with_reducible first | exact HB.out | apply below_alloc | apply pw_below_drewN | apply below_drew1) | exact HB.out))) : w.heap.size ≤ gb164)); have n3_ := Aside0.mk ((by rw [hg]; exact (below_size (by repeat (first | (with_reducible first | exact HB.out | apply below_alloc | apply pw_below_drewN | apply below_drew1) | exact HB.out))) : w.heap.size ≤ gb164)); clear HB; have HB := n0_; have BK164 := n1_; have GW164 := n2_; have GE164 := n3_; clear n0_ n1_ n2_ n3_; clear hb hbox hg; have hcz16_0 : w15.cell? ⟨gb164, 0, none⟩ = some (.int .i64 a0_0) := (blk_cell BK164.out 0).trans rfl; have hcz16_1 : w15.cell? ⟨gb164, 1, none⟩ = some (.int .i64 a0_1) := (blk_cell BK164.out 1).trans rfl; have hcz16_2 : w15.cell? ⟨gb164, 2, none⟩ = some (.int .i64 a0_2) := (blk_cell BK164.out 2).trans rfl; have hfz16_0 := blk_frozen BK164.out 0; have hfz16_1 := blk_frozen BK164.out 1; have hfz16_2 := blk_frozen BK164.out 2))
      go_ret
      exact ⟨by first | rfl | (simp [errW_none, errW_some] <;> rfl) | (simp [*, errW_none, errW_some] <;> rfl), by repeat (first | (with_reducible first | exact HB.out | apply below_alloc | apply pw_below_drewN | apply below_drew1 | refine below_set ?_ GE164.out) | exact HB.out)⟩
  · rw [if_neg c2] at H
    have c2b0 : decide (0 ≤ a0_0) = false := decide_eq_false c2
    clear c2
    obtain rfl := Option.some.inj H
    go_enter Tryd.func14, Tryd.ntmps14
    go_wp2_with (first | ((with_reducible refine gate_dst (N := 1) rfl ?_); refine box_event ?hg (N := 1) ?hd (cs := #[.int .i64 a0_0, .int .i64 a0_1, .int .i64 a0_2]) (t := 23) ?hr ?_; (case hd => rfl); (case hg => rfl); (case hr => first | (go_simp; done) | (go_simp; rfl)); intro gb164 hg w17 hbox hb; have n0_ := Aside0.mk (below_step (by repeat (first | (with_reducible first | exact HB.out | apply below_alloc | apply pw_below_drewN | apply below_drew1) | exact HB.out)) hb); have n1_ := Aside0.mk (hbox); have n2_ := Aside0.mk ((by rw [hg]; exact (below_size (by repeat (first | (with_reducible first | exact HB.out | apply below_alloc | apply pw_below_drewN | apply below_drew1) | exact HB.out))) : w.heap.size ≤ gb164)); have n3_ := Aside0.mk ((by rw [hg]; exact (below_size (by repeat (first | (with_reducible first | exact HB.out | apply below_alloc | apply pw_below_drewN | apply below_drew1) | exact HB.out))) : w.heap.size ≤ gb164)); clear HB; have HB := n0_; have BK164 := n1_; have GW164 := n2_; have GE164 := n3_; clear n0_ n1_ n2_ n3_; clear hb hbox hg; have hcz18_0 : w17.cell? ⟨gb164, 0, none⟩ = some (.int .i64 a0_0) := (blk_cell BK164.out 0).trans rfl; have hcz18_1 : w17.cell? ⟨gb164, 1, none⟩ = some (.int .i64 a0_1) := (blk_cell BK164.out 1).trans rfl; have hcz18_2 : w17.cell? ⟨gb164, 2, none⟩ = some (.int .i64 a0_2) := (blk_cell BK164.out 2).trans rfl; have hfz18_0 := blk_frozen BK164.out 0; have hfz18_1 := blk_frozen BK164.out 1; have hfz18_2 := blk_frozen BK164.out 2))
    go_ret
    exact ⟨by first | rfl | (simp [errW_none, errW_some] <;> rfl) | (simp [*, errW_none, errW_some] <;> rfl), by repeat (first | (with_reducible first | exact HB.out | apply below_alloc | apply pw_below_drewN | apply below_drew1 | refine below_set ?_ GE164.out) | exact HB.out)⟩
end Go.Proofs.YtmmbpbgcobmifaaDoor.Pr
end
section
namespace Go.Proofs.YtmmbpbgcobmifaaDoor.Pr
end Go.Proofs.YtmmbpbgcobmifaaDoor.Pr
namespace Go.Proofs.YtmmbpbgcobmifaaDoorH
open Go.RowKit Go.Proofs.YtmmbpbgcobmifaaDoorW.PrintWords Go.Proofs.YtmmbpbgcobmifaaDoorW.PrintLast Go.Proofs.YtmmbpbgcobmifaaDoorW.PrintMore Go.Proofs.YtmmbpbgcobmifaaDoor.Pr Go.Proofs.YtmmbpbgcobmifaaDoorM
theorem rd_sameM (l : List Int) (i : Nat) : rd l (i : Int) = l.getD i 0 := by
  unfold rd
  rw [Int.toNat_natCast]
theorem SameM_l0 (l0 l1 : List Int) (he : l0.length = l1.length) (hl : l0.length ≤ 1000000) : ∀ (d i k : Nat), l0.length - i = d → i ≤ l0.length → d < k → catchpitref03_Same.l0 k l0 l1 (i : Int) = some (decide (l0.drop i = l1.drop i))
  | 0, i, k, h1, h2, h3 => by
    obtain ⟨k, rfl⟩ : ∃ m, k = m + 1 := ⟨k - 1, by omega⟩
    rw [catchpitref03_Same.l0, if_neg (by omega), List.drop_eq_nil_of_le (by omega), List.drop_eq_nil_of_le (by omega)]
    rfl
  | d + 1, i, k, h1, h2, h3 => by
    obtain ⟨k, rfl⟩ : ∃ m, k = m + 1 := ⟨k - 1, by omega⟩
    have hw : wrap64 ((i : Int) + 1) = ((i + 1 : Nat) : Int) := by unfold wrap64; omega
    have e0 : l0.drop i = l0.getD i 0 :: l0.drop (i + 1) := by
      rw [List.getD_eq_getElem?_getD, List.getElem?_eq_getElem (by omega)]
      exact List.drop_eq_getElem_cons (by omega)
    have e1 : l1.drop i = l1.getD i 0 :: l1.drop (i + 1) := by
      rw [List.getD_eq_getElem?_getD, List.getElem?_eq_getElem (by omega)]
      exact List.drop_eq_getElem_cons (by omega)
    rw [catchpitref03_Same.l0, if_pos (by omega), if_pos (by omega), if_pos (by omega), rd_sameM, rd_sameM, hw, e0, e1]
    by_cases h : l0.getD i 0 = l1.getD i 0
    · rw [if_pos h, SameM_l0 l0 l1 he hl d (i + 1) k (by omega) (by omega) (by omega), h]
      simp
    · rw [if_neg h, decide_eq_false (fun e => h (List.cons.inj e).1)]
theorem SameM_eq (l0 l1 : List Int) (hl : l0.length ≤ 1000000) (k : Nat) (hk : l0.length < k) : catchpitref03_Same.f k l0 l1 = some (decide (l0 = l1)) := by
  unfold catchpitref03_Same.f
  by_cases he : l0.length = l1.length
  · rw [if_pos (by omega)]
    have := SameM_l0 l0 l1 he hl l0.length 0 k (by omega) (by omega) hk
    rwa [List.drop_zero, List.drop_zero] at this
  · rw [if_neg (by omega), decide_eq_false (fun e => he (by rw [e]))]
theorem Same8_eq (l0 l1 : List Int) (hl : l0.length ≤ 1000000) (k : Nat) (hk : l0.length < k) : catchpitref08_Same.f k l0 l1 = some (decide (l0 = l1)) := by
  unfold catchpitref08_Same.f
  rw [SameM_eq l0 l1 hl k hk]
  rfl
theorem FieldsM_l0 (a : List Fld) (hc : a.length ≤ 1000000) : ∀ d i k : Nat, i ≤ a.length → a.length - i = d → d < k → catchpitref05_Fields.l0 k a a (i : Int) = some true := by
  intro d
  induction d with
  | zero =>
    intro i k h1 h2 h3
    obtain ⟨k, rfl⟩ : ∃ m, k = m + 1 := ⟨k - 1, by omega⟩
    rw [catchpitref05_Fields.l0, if_neg (by omega)]
  | succ d ih =>
    intro i k h1 h2 h3
    obtain ⟨k, rfl⟩ : ∃ m, k = m + 1 := ⟨k - 1, by omega⟩
    rw [catchpitref05_Fields.l0, if_pos (by omega), if_pos (by omega), if_pos (by omega), if_neg (by simp), show wrap64 ((i : Int) + 1) = ((i + 1 : Nat) : Int) by unfold wrap64; omega]
    exact ih (i + 1) k (by omega) (by omega) (by omega)
theorem FieldsM_eq (a : List Fld) (hc : a.length ≤ 1000000) (k : Nat) (hk : a.length < k) : catchpitref05_Fields.f k a a = some true := by
  rw [catchpitref05_Fields.f, if_pos rfl]
  exact FieldsM_l0 a hc a.length 0 k (Nat.zero_le _) (by omega) hk
theorem Right8_eq (a b c : Int) : catchpitref08_Right.f a b c = some (rightL a b c) := by
  unfold catchpitref08_Right.f rightL
  by_cases h1 : a ≥ 0
  · by_cases h2 : a ≤ 65536
    · by_cases h3 : b ≥ 0
      · by_cases h4 : b ≤ 65536
        · by_cases h5 : c ≥ 0
          · simp [h1, h2, h3, h4, h5]
          · simp [h1, h2, h3, h4, h5]
        · simp [h1, h2, h3, h4]
      · simp [h1, h2, h3]
    · simp [h1, h2]
  · simp [h1]
theorem run_dataLen {E : MEnv Fld} : ∀ (r : List Int) (i : Nat) (X : MSt Fld), (mrun E X r i).1.data.length ≤ X.data.length + r.length ∧ (mrun E X r i).1.fields.length ≤ X.fields.length + r.length
  | [], i, X => by simp [mrun]
  | c :: r, i, X => by
    have hline : ∀ (Y x : MSt Fld), mline E Y c = .ok x → x.data.length ≤ Y.data.length + 1 ∧ x.fields.length ≤ Y.fields.length + 1 := by
      intro Y x h
      unfold mline at h
      split at h
      · cases h
      · split at h <;> cases h <;> simp
    have hstep : ∀ (x : MSt Fld), mstep E X c = .ok x → x.data.length ≤ X.data.length + 1 ∧ x.fields.length ≤ X.fields.length + 1 := by
      intro x h
      unfold mstep at h
      repeat' split at h
      all_goals first
        | (cases h; simp; done)
        | (have := hline _ _ h; simpa using this)
        | cases h
    cases h : mstep E X c with
    | error e => rw [run_err h]; simp only [List.length_cons]; omega
    | ok x =>
      have := hstep x h
      by_cases hp : x.place = 11
      · rw [run_fin h hp]; simp only [List.length_cons]; omega
      · rw [run_on h hp]
        have := run_dataLen (E := E) r (i + 1) x
        simp only [List.length_cons]; omega
end Go.Proofs.YtmmbpbgcobmifaaDoorH
end
section
namespace Go.Proofs.YtmmbpbgcobmifaaDoor.Pr
open Go.RowKit Go.Proofs.YtmmbpbgcobmifaaDoorH Go.Proofs.YtmmbpbgcobmifaaDoorW.PrintWords Go.Proofs.YtmmbpbgcobmifaaDoorW.PrintLast Go.Proofs.YtmmbpbgcobmifaaDoorW.PrintMore
attribute [local go_sem] max2_int min2_int max_two min_two max_three min_three max_four min_four   -- for this text's walks alone
set_option linter.unusedVariables false
set_option linter.unusedSimpArgs false
def catchpitref01_Put.f : Nat → Int → Option (ByteArray)
  | 0, _ => none
  | k + 1, a0 => if a0 < 16 then (if 0 ≤ (wrap64 (Int.tmod a0 16)) then (if (wrap64 (Int.tmod a0 16)) ≤ (wrap64 ((wrap64 (Int.tmod a0 16)) + 1)) then (if (wrap64 ((wrap64 (Int.tmod a0 16)) + 1)) ≤ 16 then (some ((⟨#[48, 49, 50, 51, 52, 53, 54, 55, 56, 57, 97, 98, 99, 100, 101, 102]⟩ : ByteArray).extract ((wrap64 (Int.tmod a0 16)) : Int).toNat ((wrap64 ((wrap64 (Int.tmod a0 16)) + 1)) : Int).toNat)) else (none)) else (none)) else (none)) else ((catchpitref01_Put.f k (IntKind.u64.wrap (Int.tdiv a0 16))).bind fun t143 => (if 0 ≤ (wrap64 (Int.tmod a0 16)) then (if (wrap64 (Int.tmod a0 16)) ≤ (wrap64 ((wrap64 (Int.tmod a0 16)) + 1)) then (if (wrap64 ((wrap64 (Int.tmod a0 16)) + 1)) ≤ 16 then (if t143.size + ((⟨#[48, 49, 50, 51, 52, 53, 54, 55, 56, 57, 97, 98, 99, 100, 101, 102]⟩ : ByteArray).extract ((wrap64 (Int.tmod a0 16)) : Int).toNat ((wrap64 ((wrap64 (Int.tmod a0 16)) + 1)) : Int).toNat).size ≤ 9223372036854775807 then (some (t143 ++ ((⟨#[48, 49, 50, 51, 52, 53, 54, 55, 56, 57, 97, 98, 99, 100, 101, 102]⟩ : ByteArray).extract ((wrap64 (Int.tmod a0 16)) : Int).toNat ((wrap64 ((wrap64 (Int.tmod a0 16)) + 1)) : Int).toNat))) else (none)) else (none)) else (none)) else (none)))
theorem catchpitref01_Put.mono_l : ∀ k, (∀ y0, LeO (catchpitref01_Put.f k y0) (catchpitref01_Put.f (k + 1) y0))
  | 0 => fun _ r h => by simp [catchpitref01_Put.f] at h
  | k + 1 => by
    have ih0 := catchpitref01_Put.mono_l k
    · intro y0
      unfold catchpitref01_Put.f
      repeat' first
      | (with_reducible exact ih0 _)
      | (with_reducible exact LeO.refl _)
      | (with_reducible exact LeO.none _)
      | (with_reducible refine LeO.ite ?_ ?_)
      | (with_reducible refine LeO.bind ?_ (fun _ => ?_))
      | exact ih0 _
      | exact LeO.none _
      | refine LeO.ite ?_ ?_
      | refine LeO.bind ?_ (fun _ => ?_)
theorem catchpitref01_Put.mono : ∀ a0 k, LeO (catchpitref01_Put.f k a0) (catchpitref01_Put.f (k + 1) a0) := by
  intro a0 k
  have ih0 := catchpitref01_Put.mono_l k
  exact ih0 a0
def catchpitref01_Put.B5 : List Nat := [0, 1, 3, 0, 0, 0, 32, 120, 255, 511]
end Go.Proofs.YtmmbpbgcobmifaaDoor.Pr
end
section
namespace Go.Proofs.YtmmbpbgcobmifaaDoor.Pr
open Go.RowKit Go.Proofs.YtmmbpbgcobmifaaDoorH Go.Proofs.YtmmbpbgcobmifaaDoorW.PrintWords Go.Proofs.YtmmbpbgcobmifaaDoorW.PrintLast Go.Proofs.YtmmbpbgcobmifaaDoorW.PrintMore
attribute [local go_sem] max2_int min2_int max_two min_two max_three min_three max_four min_four   -- for this text's walks alone
set_option linter.unusedVariables false
set_option linter.unusedSimpArgs false
def catchpitref01_Digit.l0 : Nat → Int → ByteArray → ByteArray → Int → Option (Int)
  | 0, _, _, _, _ => none
  | k + 1, x0, x3, x4, x5 => if x5 < 16 then (if 0 ≤ x5 then (if x5 < (x3.size : Int) then (if (bt x3 x5) = x0 then (some x5) else (if x5 < (x4.size : Int) then (if (bt x4 x5) = x0 then (some x5) else (catchpitref01_Digit.l0 k x0 x3 x4 (wrap64 (x5 + 1)))) else (none))) else (none)) else (none)) else (some (-1))
def catchpitref01_Digit.f (k : Nat) (a0 : Int) : Option (Int) := catchpitref01_Digit.l0 k a0 (⟨#[48, 49, 50, 51, 52, 53, 54, 55, 56, 57, 97, 98, 99, 100, 101, 102]⟩ : ByteArray) (⟨#[48, 49, 50, 51, 52, 53, 54, 55, 56, 57, 65, 66, 67, 68, 69, 70]⟩ : ByteArray) 0
theorem catchpitref01_Digit.mono_l : ∀ k, (∀ y0 y1 y2 y3, LeO (catchpitref01_Digit.l0 k y0 y1 y2 y3) (catchpitref01_Digit.l0 (k + 1) y0 y1 y2 y3))
  | 0 => fun _ _ _ _ r h => by simp [catchpitref01_Digit.l0] at h
  | k + 1 => by
    have ih0 := catchpitref01_Digit.mono_l k
    · intro y0 y1 y2 y3
      unfold catchpitref01_Digit.l0
      repeat' first
      | (with_reducible exact ih0 _ _ _ _)
      | (with_reducible exact LeO.refl _)
      | (with_reducible exact LeO.none _)
      | (with_reducible refine LeO.ite ?_ ?_)
      | (with_reducible refine LeO.bind ?_ (fun _ => ?_))
      | exact ih0 _ _ _ _
      | exact LeO.none _
      | refine LeO.ite ?_ ?_
      | refine LeO.bind ?_ (fun _ => ?_)
theorem catchpitref01_Digit.mono : ∀ a0 k, LeO (catchpitref01_Digit.f k a0) (catchpitref01_Digit.f (k + 1) a0) := by
  intro a0 k
  have ih0 := catchpitref01_Digit.mono_l k
  unfold catchpitref01_Digit.f
  repeat' first
      | (with_reducible exact ih0 _ _ _ _)
      | (with_reducible exact LeO.refl _)
      | (with_reducible exact LeO.none _)
      | (with_reducible refine LeO.ite ?_ ?_)
      | (with_reducible refine LeO.bind ?_ (fun _ => ?_))
      | exact ih0 _ _ _ _
      | exact LeO.none _
      | refine LeO.ite ?_ ?_
      | refine LeO.bind ?_ (fun _ => ?_)
end Go.Proofs.YtmmbpbgcobmifaaDoor.Pr
end
section
namespace Go.Proofs.YtmmbpbgcobmifaaDoor.Pr
end Go.Proofs.YtmmbpbgcobmifaaDoor.Pr
namespace Go.Proofs.YtmmbpbgcobmifaaDoorH
set_option linter.unusedVariables false
set_option linter.unusedSimpArgs false
open Go Go.RowKit Go.Proofs.YtmmbpbgcobmifaaDoorW.PrintWords Go.Proofs.YtmmbpbgcobmifaaDoorW.PrintLast Go.Proofs.YtmmbpbgcobmifaaDoorW.PrintMore Go.Proofs.YtmmbpbgcobmifaaDoor.Pr Go.Proofs.YtmmbpbgcobmifaaDoorM
theorem one_byte (W : World) (c : Int) : (convert 24 9 (.slice (some ⟨W.heap.size, 0, none⟩) 1 1)).run Tryd.prog (W.alloc (.cells #[.int .u8 c] 5)) = .ok (.string (strOfNums [c])) (W.alloc (.cells #[.int .u8 c] 5)) := by
  refine Kd.C_string (xs := [c]) (c := 1) Tryd.underlying24 Tryd.underlying5 Tryd.underlying9 ⟨rfl, by decide, fun _ => ⟨_, rfl, fun j p hj => ?_⟩⟩
  match j with
  | 0 =>
    have e : c = p := by simpa using hj
    subst e
    refine ⟨[.int .u8 c], rfl, rfl, fun i u hu => ?_⟩
    match i with
    | 0 =>
      have e : Value.int .u8 c = u := by simpa using hu
      subst e
      exact World.news_of_block (World.alloc_heap_new W _) 0 _ rfl
    | i + 1 => simp at hu
  | j + 1 => simp at hj
end Go.Proofs.YtmmbpbgcobmifaaDoorH
end
section
namespace Go.Proofs.YtmmbpbgcobmifaaDoor.Pr
end Go.Proofs.YtmmbpbgcobmifaaDoor.Pr
namespace Go.Proofs.YtmmbpbgcobmifaaDoorH
set_option linter.unusedVariables false
set_option linter.unusedSimpArgs false
open Go Go.RowKit Go.Proofs.YtmmbpbgcobmifaaDoorW.PrintWords Go.Proofs.YtmmbpbgcobmifaaDoorW.PrintLast Go.Proofs.YtmmbpbgcobmifaaDoorW.PrintMore Go.Proofs.YtmmbpbgcobmifaaDoor.Pr Go.Proofs.YtmmbpbgcobmifaaDoorM
theorem bset {B : Nat} {w W : World} (h : Below B w W) (g j : Nat) (v : Value) (hg : B ≤ g) : Below B w (W.setCell ⟨g, j, none⟩ v) := h.setCell (p := ⟨g, j, none⟩) hg v
end Go.Proofs.YtmmbpbgcobmifaaDoorH
end
section
namespace Go.Proofs.YtmmbpbgcobmifaaDoor.Pr
end Go.Proofs.YtmmbpbgcobmifaaDoor.Pr
namespace Go.Proofs.YtmmbpbgcobmifaaDoorH
set_option linter.unusedVariables false
set_option linter.unusedSimpArgs false
open Go Go.RowKit Go.Proofs.YtmmbpbgcobmifaaDoorW.PrintWords Go.Proofs.YtmmbpbgcobmifaaDoorW.PrintLast Go.Proofs.YtmmbpbgcobmifaaDoorW.PrintMore Go.Proofs.YtmmbpbgcobmifaaDoor.Pr Go.Proofs.YtmmbpbgcobmifaaDoorM
theorem digit8_le {c : Int} (hc : 0 ≤ c ∧ c ≤ 255) : digI c ≤ 15 := all256 (p := fun c => digI c ≤ 15) (by decide +kernel) hc
end Go.Proofs.YtmmbpbgcobmifaaDoorH
end
section
namespace Go.Proofs.YtmmbpbgcobmifaaDoor.Pr
end Go.Proofs.YtmmbpbgcobmifaaDoor.Pr
namespace Go.Proofs.YtmmbpbgcobmifaaDoorH
set_option linter.unusedVariables false
set_option linter.unusedSimpArgs false
open Go.RowKit Go.Proofs.YtmmbpbgcobmifaaDoorW.PrintWords Go.Proofs.YtmmbpbgcobmifaaDoorW.PrintLast Go.Proofs.YtmmbpbgcobmifaaDoorW.PrintMore Go.Proofs.YtmmbpbgcobmifaaDoor.Pr Go.Proofs.YtmmbpbgcobmifaaDoorM
structure InvN (X : MSt Fld) (i : Nat) : Prop where
  pl : X.place ≤ 11
  n : X.n ≤ 4611686018427387903
  co : X.count ≤ i
  li : X.lines ≤ i
  sz : X.size ≤ i
  tx : X.text.length ≤ i
  dl : X.data.length ≤ i
  fl : X.fields.length ≤ i
  n3 : X.place = 3 → 0 < X.n
  t9 : X.place = 7 ∨ X.place = 8 ∨ X.place = 9 → 0 < X.text.length
theorem invN_init : InvN (minit : MSt Fld) 0 := ⟨by decide, by decide, Nat.le_refl _, Nat.le_refl _, Nat.le_refl _, Nat.le_refl _, Nat.le_refl _, Nat.le_refl _, fun h => absurd h (by decide), fun h => absurd h (by decide)⟩
theorem invN_step {e0 e1 e2 : Nat} {X Y : MSt Fld} {c : Int} {i : Nat} (h : InvN X i) (hc : 0 ≤ c ∧ c ≤ 255) (hs : mstep (envM e0 e1 e2) X c = .ok Y) : InvN Y (i + 1) := by
  have hdg : (envM e0 e1 e2).dg c ≤ 15 := digit8_le hc
  obtain ⟨p, n, co, li, sz, tx, D, F⟩ := X
  obtain ⟨q1, q2, q3, q4, q5, q6, q7, q8, q9, q10⟩ := h
  dsimp only at q1 q2 q3 q4 q5 q6 q7 q8 q9 q10
  have hD : (D ++ [c]).length ≤ i + 1 := by rw [List.length_append]; simp; omega
  have hline : ∀ p2 li2, (p2 = 7 ∨ p2 = 8 ∨ p2 = 9) → (p2 = 7 ∨ 0 < tx.length) → li2 ≤ i + 1 → mline (envM e0 e1 e2) ⟨p2, n, co, li2, sz, tx, D, F⟩ c = .ok Y → InvN Y (i + 1) := by
    intro p2 li2 hp2 ht hl hm
    unfold mline at hm
    split at hm
    · cases hm
    · split at hm
      · cases hm
        exact ⟨by show 6 ≤ 11; omega, q2, (show co ≤ i + 1 by omega), hl, (show sz + 1 ≤ i + 1 by omega), Nat.zero_le _, (show D.length ≤ i + 1 by omega), (by show (F ++ _).length ≤ i + 1; rw [List.length_append]; simp; omega), fun h => by simp at h, fun h => by simp at h⟩
      · cases hm
        exact ⟨(show p2 ≤ 11 by omega), q2, (show co ≤ i + 1 by omega), hl, (show sz + 1 ≤ i + 1 by omega), (by show (tx ++ [c]).length ≤ i + 1; rw [List.length_append]; simp; omega), (show D.length ≤ i + 1 by omega), (show F.length ≤ i + 1 by omega), fun h => by have : p2 = 3 := h; omega, fun _ => by show 0 < (tx ++ [c]).length; rw [List.length_append]; simp⟩
  unfold mstep at hs
  dsimp only at hs
  repeat' split at hs
  all_goals first
    | (cases hs; done)
    | exact hline _ _ (by omega) (by omega) (by omega) hs
    | exact hline _ _ (by omega) (by first | (left; omega) | (right; exact q10 (by omega))) (by omega) hs
    | (cases hs; refine ⟨?_, ?_, ?_, ?_, ?_, ?_, ?_, ?_, ?_, ?_⟩ <;> dsimp only <;> first | assumption | omega | (intro h; omega))
end Go.Proofs.YtmmbpbgcobmifaaDoorH
end
section
namespace Go.Proofs.YtmmbpbgcobmifaaDoor.Pr
end Go.Proofs.YtmmbpbgcobmifaaDoor.Pr
namespace Go.Proofs.YtmmbpbgcobmifaaDoorH
set_option linter.unusedVariables false
set_option linter.unusedSimpArgs false
open Go Go.RowKit Go.Proofs.YtmmbpbgcobmifaaDoorW.PrintWords Go.Proofs.YtmmbpbgcobmifaaDoorW.PrintLast Go.Proofs.YtmmbpbgcobmifaaDoorW.PrintMore Go.Proofs.YtmmbpbgcobmifaaDoor.Pr Go.Proofs.YtmmbpbgcobmifaaDoorM
theorem cell_far {W W' : World} {a : Addr} (h : W'.heap[a.block]? = W.heap[a.block]?) : W'.cell? a = W.cell? a := by unfold World.cell?; rw [h]
end Go.Proofs.YtmmbpbgcobmifaaDoorH
end
section
namespace Go.Proofs.YtmmbpbgcobmifaaDoor.Pr
end Go.Proofs.YtmmbpbgcobmifaaDoor.Pr
namespace Go.Proofs.YtmmbpbgcobmifaaDoorH
set_option linter.unusedVariables false
set_option linter.unusedSimpArgs false
open Go Go.RowKit Go.Proofs.YtmmbpbgcobmifaaDoorW.PrintWords Go.Proofs.YtmmbpbgcobmifaaDoorW.PrintLast Go.Proofs.YtmmbpbgcobmifaaDoorW.PrintMore Go.Proofs.YtmmbpbgcobmifaaDoor.Pr Go.Proofs.YtmmbpbgcobmifaaDoorM
def encG (x : Fld) : List Value := [.string x.f0, .string x.f1]
def RowG (W : World) (base : Nat) (v : Value) (l : List Fld) : Prop := W.ownsRow base 53 2 v l.length (l.flatMap encG)
theorem RowG.zero (W : World) (base : Nat) : RowG W base (.slice none 0 0) [] := own_nil W base _ 2
theorem RowG.move {W W1 : World} {base : Nat} {v : Value} {l : List Fld} (h : RowG W base v l) (hm : ∀ k, v.ownBlock = some k → W1.heap[k]? = W.heap[k]?) : RowG W1 base v l := own_move h hm
theorem RowG.at {W : World} {base : Nat} {v : Value} {l : List Fld} (h : RowG W base v l) (k : Nat) (hk : v.ownBlock = some k) : base ≤ k ∧ ∃ cs, W.heap[k]? = some (.cells cs 53 (0, 0)) := by
  rcases h.2 with ⟨rfl, _⟩ | ⟨g, cap, cur, rfl, hb, hh, _⟩
  · simp [Value.ownBlock] at hk
  · have : g = k := by simpa [Value.ownBlock] using hk
    subst this
    exact ⟨hb, _, hh⟩
theorem RowG.reads {W : World} {base : Nat} {v : Value} {l : List Fld} (h : RowG W base v l) : ∃ A c, v = .slice A l.length c ∧ l.length ≤ c ∧ Kd.C k53 W A l.length l :=
  Kd.R_reads (row_of_owns k53 encG (fun _ => rfl) (fun ok x => k53_mkM W base ok x) h)
structure Moves (w W : World) (S S' : Nat → Prop) : Prop where
  sz : w.heap.size ≤ W.heap.size
  bl : ∀ k ob, w.heap[k]? = some ob → ¬ S k → W.heap[k]? = some ob
  own : ∀ k, S' k → S k ∨ w.heap.size ≤ k
theorem Moves.refl (w : World) (S : Nat → Prop) : Moves w w S S := ⟨Nat.le_refl _, fun _ _ h _ => h, fun _ h => .inl h⟩
theorem Moves.trans {w w1 w2 : World} {S S1 S2 : Nat → Prop} (h : Moves w w1 S S1) (g : Moves w1 w2 S1 S2) : Moves w w2 S S2 :=
  ⟨Nat.le_trans h.sz g.sz, fun k ob hk hn => g.bl k ob (h.bl k ob hk hn) (fun hs => (h.own k hs).elim hn (fun hle => by have := blk_lt hk; omega)), fun k hs => (g.own k hs).elim (h.own k) (fun hle => .inr (Nat.le_trans h.sz hle))⟩
theorem Moves.of_only {b : Nat} {w W : World} {S : Nat → Prop} (h : Only b w W) (hb : S b) : Moves w W S S :=
  ⟨h.1.size, fun _ _ hk hn => h.blk hk (fun e => hn (e ▸ hb)), fun _ h => .inl h⟩
theorem Moves.of_below {w W : World} {S : Nat → Prop} (h : Below w.heap.size w W) : Moves w W S S :=
  ⟨h.size, fun _ _ hk _ => blk_below hk h, fun _ h => .inl h⟩
def Own3 (b : Nat) (lv fv : Value) (k : Nat) : Prop := k = b ∨ lv.ownBlock = some k ∨ fv.ownBlock = some k
abbrev decC (e0 e1 e2 : Nat) (X : MSt Fld) (co : Nat) (lv fv : Value) (tk gv : Nat) (er : Int) : Array Value := #[.int .i64 (e0 : Int), .int .i64 (e1 : Int), .int .i64 (e2 : Int), .int .i64 (X.place : Int), .int .u64 (X.n : Int), .int .i64 (co : Int), .int .i64 (X.lines : Int), .int .i64 (X.size : Int), lv, fv, .int .i64 (tk : Int), .int .i64 (gv : Int), .int .i64 er]
structure AtD (W : World) (B b e0 e1 e2 : Nat) (X : MSt Fld) (co : Nat) (lv fv : Value) (tk gv : Nat) (er : Int) : Prop where
  i : W.heap[b]? = some (.cells (decC e0 e1 e2 X co lv fv tk gv er) 73 (0, 0))
  l : RowD W B lv X.text
  f : RowG W B fv X.fields
  hb : B ≤ b
section
variable {W : World} {B b e0 e1 e2 : Nat} {X : MSt Fld} {co : Nat} {lv fv : Value} {tk gv : Nat} {er : Int}
theorem AtD.c0 (h : AtD W B b e0 e1 e2 X co lv fv tk gv er) : W.cell? ⟨b, 0, none⟩ = some (.int .i64 (e0 : Int)) := (blk_cell h.i 0).trans rfl
theorem AtD.c1 (h : AtD W B b e0 e1 e2 X co lv fv tk gv er) : W.cell? ⟨b, 1, none⟩ = some (.int .i64 (e1 : Int)) := (blk_cell h.i 1).trans rfl
theorem AtD.c2 (h : AtD W B b e0 e1 e2 X co lv fv tk gv er) : W.cell? ⟨b, 2, none⟩ = some (.int .i64 (e2 : Int)) := (blk_cell h.i 2).trans rfl
theorem AtD.c3 (h : AtD W B b e0 e1 e2 X co lv fv tk gv er) : W.cell? ⟨b, 3, none⟩ = some (.int .i64 (X.place : Int)) := (blk_cell h.i 3).trans rfl
theorem AtD.c4 (h : AtD W B b e0 e1 e2 X co lv fv tk gv er) : W.cell? ⟨b, 4, none⟩ = some (.int .u64 (X.n : Int)) := (blk_cell h.i 4).trans rfl
theorem AtD.c5 (h : AtD W B b e0 e1 e2 X co lv fv tk gv er) : W.cell? ⟨b, 5, none⟩ = some (.int .i64 (co : Int)) := (blk_cell h.i 5).trans rfl
theorem AtD.c6 (h : AtD W B b e0 e1 e2 X co lv fv tk gv er) : W.cell? ⟨b, 6, none⟩ = some (.int .i64 (X.lines : Int)) := (blk_cell h.i 6).trans rfl
theorem AtD.c7 (h : AtD W B b e0 e1 e2 X co lv fv tk gv er) : W.cell? ⟨b, 7, none⟩ = some (.int .i64 (X.size : Int)) := (blk_cell h.i 7).trans rfl
theorem AtD.c8 (h : AtD W B b e0 e1 e2 X co lv fv tk gv er) : W.cell? ⟨b, 8, none⟩ = some lv := (blk_cell h.i 8).trans rfl
theorem AtD.c9 (h : AtD W B b e0 e1 e2 X co lv fv tk gv er) : W.cell? ⟨b, 9, none⟩ = some fv := (blk_cell h.i 9).trans rfl
theorem AtD.c10 (h : AtD W B b e0 e1 e2 X co lv fv tk gv er) : W.cell? ⟨b, 10, none⟩ = some (.int .i64 (tk : Int)) := (blk_cell h.i 10).trans rfl
theorem AtD.c11 (h : AtD W B b e0 e1 e2 X co lv fv tk gv er) : W.cell? ⟨b, 11, none⟩ = some (.int .i64 (gv : Int)) := (blk_cell h.i 11).trans rfl
theorem AtD.c12 (h : AtD W B b e0 e1 e2 X co lv fv tk gv er) : W.cell? ⟨b, 12, none⟩ = some (.int .i64 er) := (blk_cell h.i 12).trans rfl
theorem AtD.fz (h : AtD W B b e0 e1 e2 X co lv fv tk gv er) (j : Nat) : W.frozen? ⟨b, j, none⟩ = false := blk_frozen h.i j
theorem AtD.lt (h : AtD W B b e0 e1 e2 X co lv fv tk gv er) : b < W.heap.size := blk_lt h.i
theorem AtD.nl (h : AtD W B b e0 e1 e2 X co lv fv tk gv er) : lv.ownBlock ≠ some b := fun e => by
  obtain ⟨_, cs, hc⟩ := h.l.at b e
  have := hc.symm.trans h.i
  cases this
theorem AtD.nf (h : AtD W B b e0 e1 e2 X co lv fv tk gv er) : fv.ownBlock ≠ some b := fun e => by
  obtain ⟨_, cs, hc⟩ := h.f.at b e
  have := hc.symm.trans h.i
  cases this
theorem AtD.nlf (h : AtD W B b e0 e1 e2 X co lv fv tk gv er) (k : Nat) (h1 : lv.ownBlock = some k) : fv.ownBlock ≠ some k := fun e => by
  obtain ⟨_, cs, hc⟩ := h.f.at k e
  obtain ⟨_, cs', hc'⟩ := h.l.at k h1
  have := hc.symm.trans hc'
  cases this
theorem AtD.turn {W1 : World} {Y : MSt Fld} {co' tk' gv' : Nat} {er' : Int} (h : AtD W B b e0 e1 e2 X co lv fv tk gv er) (ho : Only b W W1) (hi : W1.heap[b]? = some (.cells (decC e0 e1 e2 Y co' lv fv tk' gv' er') 73 (0, 0))) (ht : Y.text = X.text) (hf : Y.fields = X.fields) : AtD W1 B b e0 e1 e2 Y co' lv fv tk' gv' er' :=
  ⟨hi, by
    rw [ht]
    refine h.l.move fun k hk => ?_
    obtain ⟨_, cs, hc⟩ := h.l.at k hk
    rw [hc]
    exact ho.blk hc (fun e => h.nl (e ▸ hk)), by
    rw [hf]
    refine h.f.move fun k hk => ?_
    obtain ⟨_, cs, hc⟩ := h.f.at k hk
    rw [hc]
    exact ho.blk hc (fun e => h.nf (e ▸ hk)), h.hb⟩
theorem AtD.below {W1 : World} (h : AtD W B b e0 e1 e2 X co lv fv tk gv er) (hb : Below W.heap.size W W1) : AtD W1 B b e0 e1 e2 X co lv fv tk gv er :=
  h.turn (Only.of_below hb (Nat.le_of_lt h.lt)) (blk_below h.i hb) rfl rfl
end
structure Far (w W : World) (B b : Nat) (lv fv lv' fv' : Value) : Prop where
  m : Moves w W (Own3 b lv fv) (Own3 b lv' fv')
  b : Below B w W
theorem Far.refl (w : World) (B b : Nat) (lv fv : Value) : Far w w B b lv fv lv fv := ⟨Moves.refl _ _, Below.refl _ _⟩
theorem Far.trans {w w1 w2 : World} {B b : Nat} {lv fv lv1 fv1 lv2 fv2 : Value} (h : Far w w1 B b lv fv lv1 fv1) (g : Far w1 w2 B b lv1 fv1 lv2 fv2) : Far w w2 B b lv fv lv2 fv2 := ⟨h.m.trans g.m, h.b.trans g.b⟩
theorem Far.only {w W : World} {B b : Nat} {lv fv : Value} (h : Only b w W) (hb : B ≤ b) : Far w W B b lv fv lv fv := ⟨Moves.of_only h (.inl rfl), h.1.mono hb⟩
theorem Far.of_below {w W : World} {B b : Nat} {lv fv : Value} (h : Below w.heap.size w W) (hb : B ≤ w.heap.size) : Far w W B b lv fv lv fv := ⟨Moves.of_below h, h.mono hb⟩
def TakeD (w : World) (B b e0 e1 e2 : Nat) (X : MSt Fld) (lv fv : Value) (tk gv : Nat) (c : Int) (e : Ending) (w' : World) : Prop :=
  ∃ (Y : MSt Fld) (co : Nat) (lv' fv' : Value) (er : Int), e = .returned (.int .i64 er) ∧ AtD w' B b e0 e1 e2 Y co lv' fv' tk gv 0 ∧ Far w w' B b lv fv lv' fv' ∧ (mstep (envM e0 e1 e2) X c = .ok Y ∧ er = 0 ∧ co = Y.count ∨ mstep (envM e0 e1 e2) X c = .error er ∧ er ≠ 0 ∧ Y = X)
theorem take_bad {w w' : World} {B b e0 e1 e2 : Nat} {X : MSt Fld} {lv fv : Value} {tk gv : Nat} {c : Int} {co : Nat} (er : Int) (h : AtD w' B b e0 e1 e2 X co lv fv tk gv 0) (hf : Far w w' B b lv fv lv fv) (hm : mstep (envM e0 e1 e2) X c = .error er) (hne : er ≠ 0) : TakeD w B b e0 e1 e2 X lv fv tk gv c (.returned (.int .i64 er)) w' := ⟨X, co, lv, fv, er, rfl, h, hf, .inr ⟨hm, hne, rfl⟩⟩
theorem take_ok {w w' : World} {B b e0 e1 e2 : Nat} {X Y : MSt Fld} {lv fv lv' fv' : Value} {tk gv : Nat} {c : Int} (h : AtD w' B b e0 e1 e2 Y Y.count lv' fv' tk gv 0) (hf : Far w w' B b lv fv lv' fv') (hm : mstep (envM e0 e1 e2) X c = .ok Y) : TakeD w B b e0 e1 e2 X lv fv tk gv c (.returned (.int .i64 0)) w' := ⟨Y, Y.count, lv', fv', 0, rfl, h, hf, .inl ⟨hm, rfl, rfl⟩⟩
set_option maxHeartbeats 1600000 in
set_option maxRecDepth 100000 in
theorem to_on (b p : Nat) (v : Value) (w : World) (hc : w.cell? ⟨b, 3, none⟩ = some v) (hf : w.frozen? ⟨b, 3, none⟩ = false) :
    Calls Tryd.prog 73 #[.pointer (some ⟨b, 0, none⟩), .int .i64 (p : Int), .bool true] w fun e w' => e = .returned (.int .i64 0) ∧ w' = w.setCell ⟨b, 3, none⟩ (.int .i64 (p : Int)) := by
  go_enter Tryd.func73, Tryd.ntmps73
  go_wp2
  go_ret
  exact ⟨rfl, rfl⟩
set_option maxHeartbeats 1600000 in
set_option maxRecDepth 100000 in
theorem to_off (b : Nat) (p : Int) (w : World) :
    Calls Tryd.prog 73 #[.pointer (some ⟨b, 0, none⟩), .int .i64 p, .bool false] w fun e w' => e = .returned (.int .i64 2) ∧ w' = w := by
  go_enter Tryd.func73, Tryd.ntmps73
  go_wp2
  go_ret
  exact ⟨rfl, rfl⟩
section
variable {W : World} {B b e0 e1 e2 : Nat} {X : MSt Fld} {co : Nat} {lv fv : Value} {tk gv : Nat} {er : Int}
theorem AtD.s3 (h : AtD W B b e0 e1 e2 X co lv fv tk gv er) (p : Nat) : AtD (W.setCell ⟨b, 3, none⟩ (.int .i64 (p : Int))) B b e0 e1 e2 { X with place := p } co lv fv tk gv er :=
  h.turn (Only.set _ _ _) (by simpa using blk_set h.i 3 (.int .i64 (p : Int))) rfl rfl
theorem AtD.s4 (h : AtD W B b e0 e1 e2 X co lv fv tk gv er) (p : Nat) : AtD (W.setCell ⟨b, 4, none⟩ (.int .u64 (p : Int))) B b e0 e1 e2 { X with n := p } co lv fv tk gv er :=
  h.turn (Only.set _ _ _) (by simpa using blk_set h.i 4 (.int .u64 (p : Int))) rfl rfl
theorem AtD.s5 (h : AtD W B b e0 e1 e2 X co lv fv tk gv er) (p : Nat) : AtD (W.setCell ⟨b, 5, none⟩ (.int .i64 (p : Int))) B b e0 e1 e2 X p lv fv tk gv er :=
  h.turn (Only.set _ _ _) (by simpa using blk_set h.i 5 (.int .i64 (p : Int))) rfl rfl
theorem AtD.s6 (h : AtD W B b e0 e1 e2 X co lv fv tk gv er) (p : Nat) : AtD (W.setCell ⟨b, 6, none⟩ (.int .i64 (p : Int))) B b e0 e1 e2 { X with lines := p } co lv fv tk gv er :=
  h.turn (Only.set _ _ _) (by simpa using blk_set h.i 6 (.int .i64 (p : Int))) rfl rfl
theorem AtD.s7 (h : AtD W B b e0 e1 e2 X co lv fv tk gv er) (p : Nat) : AtD (W.setCell ⟨b, 7, none⟩ (.int .i64 (p : Int))) B b e0 e1 e2 { X with size := p } co lv fv tk gv er :=
  h.turn (Only.set _ _ _) (by simpa using blk_set h.i 7 (.int .i64 (p : Int))) rfl rfl
theorem AtD.s12 (h : AtD W B b e0 e1 e2 X co lv fv tk gv er) (p : Int) : AtD (W.setCell ⟨b, 12, none⟩ (.int .i64 p)) B b e0 e1 e2 X co lv fv tk gv p :=
  h.turn (Only.set _ _ _) (by simpa using blk_set h.i 12 (.int .i64 p)) rfl rfl
theorem AtD.count (h : AtD W B b e0 e1 e2 X co lv fv tk gv er) (p : Nat) : AtD W B b e0 e1 e2 { X with count := p } co lv fv tk gv er := ⟨h.i, h.l, h.f, h.hb⟩
end
set_option maxHeartbeats 1600000 in
set_option maxRecDepth 100000 in
theorem closed_does (B b e0 e1 e2 : Nat) (X : MSt Fld) (lv fv : Value) (tk gv : Nat) (c : Int) (w : World) (h : AtD w B b e0 e1 e2 X X.count lv fv tk gv 0) (hp : X.place = 4) :
    Calls Tryd.prog 57 #[.pointer (some ⟨b, 0, none⟩), .int .u8 c] w (TakeD w B b e0 e1 e2 X lv fv tk gv c) := by
  have H := Aside0.mk h
  have k3 := h.c3
  have z3 := h.fz 3
  have HP := Aside0.mk hp
  clear h hp
  by_cases hc : c = 13
  · subst hc
    have HT := Aside0.mk (to_on b 5 _ w k3 z3)
    clear k3 z3
    go_enter Tryd.func57, Tryd.ntmps57
    go_wp2_with fail
    refine HT.out.mono ?_
    rintro e w1 ⟨rfl, rfl⟩
    go_wp2
    go_ret
    exact take_ok (Y := { X with place := 5 }) (H.out.s3 5) (Far.only (Only.set _ _ _) H.out.hb) ((step4 HP.out).trans (if_neg (by simp)))
  · have hc' : (c == 13) = false := by rw [beq_eq_false_iff_ne]; exact hc
    have HT := Aside0.mk (to_off b 5 w)
    clear k3 z3
    go_enter Tryd.func57, Tryd.ntmps57
    go_wp2_with fail
    refine HT.out.mono ?_
    rintro e w1 ⟨rfl, rfl⟩
    go_wp2
    go_ret
    exact take_bad 2 H.out (Far.refl _ _ _ _ _) ((step4 HP.out).trans (if_pos hc)) (by decide)
end Go.Proofs.YtmmbpbgcobmifaaDoorH
end
section
namespace Go.Proofs.YtmmbpbgcobmifaaDoor.Pr
end Go.Proofs.YtmmbpbgcobmifaaDoor.Pr
namespace Go.Proofs.YtmmbpbgcobmifaaDoorH
set_option linter.unusedVariables false
set_option linter.unusedSimpArgs false
open Go Go.RowKit Go.Proofs.YtmmbpbgcobmifaaDoorW.PrintWords Go.Proofs.YtmmbpbgcobmifaaDoorW.PrintLast Go.Proofs.YtmmbpbgcobmifaaDoorW.PrintMore Go.Proofs.YtmmbpbgcobmifaaDoor.Pr Go.Proofs.YtmmbpbgcobmifaaDoorM
set_option maxHeartbeats 4000000 in
set_option maxRecDepth 100000 in
theorem again_does (B b e0 e1 e2 : Nat) (X : MSt Fld) (lv fv : Value) (tk gv : Nat) (c : Int) (w : World) (h : AtD w B b e0 e1 e2 X X.count lv fv tk gv 0) (hp : X.place = 5) :
    Calls Tryd.prog 58 #[.pointer (some ⟨b, 0, none⟩), .int .u8 c] w (TakeD w B b e0 e1 e2 X lv fv tk gv c) := by
  have H := Aside0.mk h
  have k5 := h.c5
  have z5 := h.fz 5
  have HP := Aside0.mk hp
  have H1 := Aside0.mk (h.s5 0)
  have HF := Aside0.mk (show Far w (w.setCell ⟨b, 5, none⟩ (.int .i64 0)) B b lv fv lv fv from Far.only (Only.set _ _ _) h.hb)
  clear h hp
  by_cases hc : c = 10
  · subst hc
    go_enter Tryd.func58, Tryd.ntmps58
    go_wp2_with fail
    obtain ⟨w1, hw1⟩ : ∃ w1, w.setCell ⟨b, 5, none⟩ (.int .i64 0) = w1 := ⟨_, rfl⟩
    rw [hw1]
    have H2 := Aside0.mk (show AtD w1 B b e0 e1 e2 X 0 lv fv tk gv 0 by rw [← hw1]; exact H1.out)
    have HF2 := Aside0.mk (show Far w w1 B b lv fv lv fv by rw [← hw1]; exact HF.out)
    clear hw1 k5 z5 H1
    refine (to_on b 0 _ w1 H2.out.c3 (H2.out.fz 3)).mono ?_
    rintro e w2 ⟨rfl, rfl⟩
    go_wp2
    go_ret
    exact take_ok (Y := { X with place := 0, count := 0 }) ((H2.out.s3 0).count 0) (HF2.out.trans (Far.only (Only.set _ _ _) H.out.hb)) ((step5 HP.out).trans (if_neg (by simp)))
  · have hc' : (c == 10) = false := by rw [beq_eq_false_iff_ne]; exact hc
    go_enter Tryd.func58, Tryd.ntmps58
    go_wp2_with fail
    refine (to_off b 0 _).mono ?_
    rintro e w1 ⟨rfl, rfl⟩
    go_wp2
    go_ret
    exact take_bad (co := 0) 2 H1.out HF.out ((step5 HP.out).trans (if_pos hc)) (by decide)
set_option maxHeartbeats 4000000 in
set_option maxRecDepth 100000 in
theorem finish_does (B b e0 e1 e2 : Nat) (X : MSt Fld) (lv fv : Value) (tk gv : Nat) (c : Int) (w : World) (h : AtD w B b e0 e1 e2 X X.count lv fv tk gv 0) (hp : X.place = 10) :
    Calls Tryd.prog 63 #[.pointer (some ⟨b, 0, none⟩), .int .u8 c] w (TakeD w B b e0 e1 e2 X lv fv tk gv c) := by
  have H := Aside0.mk h
  have HP := Aside0.mk hp
  have HT := Aside0.mk (to_on b 11 _ w h.c3 (h.fz 3))
  have HT2 := Aside0.mk (to_off b 11 w)
  clear h hp
  by_cases hc : c = 10
  · subst hc
    go_enter Tryd.func63, Tryd.ntmps63
    go_wp2_with fail
    refine HT.out.mono ?_
    rintro e w1 ⟨rfl, rfl⟩
    go_wp2
    go_ret
    exact take_ok (Y := { X with place := 11 }) (H.out.s3 11) (Far.only (Only.set _ _ _) H.out.hb) ((step10 HP.out).trans (if_neg (by simp)))
  · have hc' : (c == 10) = false := by rw [beq_eq_false_iff_ne]; exact hc
    go_enter Tryd.func63, Tryd.ntmps63
    go_wp2_with fail
    refine HT2.out.mono ?_
    rintro e w1 ⟨rfl, rfl⟩
    go_wp2
    go_ret
    exact take_bad 2 H.out (Far.refl _ _ _ _ _) ((step10 HP.out).trans (if_pos hc)) (by decide)
set_option maxHeartbeats 4000000 in
set_option maxRecDepth 100000 in
theorem begun_does (B b e0 e1 e2 : Nat) (X : MSt Fld) (lv fv : Value) (tk gv : Nat) (c : Int) (w : World) (h : AtD w B b e0 e1 e2 X X.count lv fv tk gv 0) (hp : X.place = 2) :
    Calls Tryd.prog 55 #[.pointer (some ⟨b, 0, none⟩), .int .u8 c] w (TakeD w B b e0 e1 e2 X lv fv tk gv c) := by
  have H := Aside0.mk h
  have HP := Aside0.mk hp
  have k4 := h.c4
  have HT6 := Aside0.mk (to_on b 6 _ w h.c3 (h.fz 3))
  have HT3 := Aside0.mk (to_on b 3 _ w h.c3 (h.fz 3))
  have HT62 := Aside0.mk (to_off b 6 w)
  have HT32 := Aside0.mk (to_off b 3 w)
  clear h hp
  by_cases hn : X.n = 0
  · have hn' : ((X.n : Int) == 0) = true := by rw [beq_iff_eq]; omega
    have HN := Aside0.mk hn
    rw [hn] at k4
    clear hn hn'
    by_cases hc : c = 10
    · subst hc
      go_enter Tryd.func55, Tryd.ntmps55
      go_wp2_with fail
      refine HT6.out.mono ?_
      rintro e w1 ⟨rfl, rfl⟩
      go_wp2
      go_ret
      exact take_ok (Y := { X with place := 6 }) (H.out.s3 6) (Far.only (Only.set _ _ _) H.out.hb) ((step2 HP.out).trans ((if_neg (by simp)).trans (if_neg (by rw [HN.out]; decide))))
    · have hc' : (c == 10) = false := by rw [beq_eq_false_iff_ne]; exact hc
      go_enter Tryd.func55, Tryd.ntmps55
      go_wp2_with fail
      refine HT62.out.mono ?_
      rintro e w1 ⟨rfl, rfl⟩
      go_wp2
      go_ret
      exact take_bad 2 H.out (Far.refl _ _ _ _ _) ((step2 HP.out).trans (if_pos hc)) (by decide)
  · have hn' : ((X.n : Int) == 0) = false := by rw [beq_eq_false_iff_ne]; omega
    have HN := Aside0.mk hn
    clear hn
    by_cases hc : c = 10
    · subst hc
      go_enter Tryd.func55, Tryd.ntmps55
      go_wp2_with fail
      refine HT3.out.mono ?_
      rintro e w1 ⟨rfl, rfl⟩
      go_wp2
      go_ret
      exact take_ok (Y := { X with place := 3 }) (H.out.s3 3) (Far.only (Only.set _ _ _) H.out.hb) ((step2 HP.out).trans ((if_neg (by simp)).trans (if_pos (Nat.pos_of_ne_zero HN.out))))
    · have hc' : (c == 10) = false := by rw [beq_eq_false_iff_ne]; exact hc
      go_enter Tryd.func55, Tryd.ntmps55
      go_wp2_with fail
      refine HT32.out.mono ?_
      rintro e w1 ⟨rfl, rfl⟩
      go_wp2
      go_ret
      exact take_bad 2 H.out (Far.refl _ _ _ _ _) ((step2 HP.out).trans (if_pos hc)) (by decide)
set_option maxHeartbeats 4000000 in
set_option maxRecDepth 100000 in
theorem extended_does (B b e0 e1 e2 : Nat) (X : MSt Fld) (lv fv : Value) (tk gv : Nat) (c : Int) (w : World) (h : AtD w B b e0 e1 e2 X X.count lv fv tk gv 0) (hG : Keeps B w TabOk) (hB : B ≤ w.heap.size) (hco : X.count ≤ 1000000) (hp : X.place = 1) :
    Calls Tryd.prog 54 #[.pointer (some ⟨b, 0, none⟩), .int .u8 c] w (TakeD w B b e0 e1 e2 X lv fv tk gv c) := by
  have H := Aside0.mk h
  have HP := Aside0.mk hp
  have HG := Aside0.mk hG
  have HT2 := Aside0.mk (to_on b 2 _ w h.c3 (h.fz 3))
  clear h hp hG
  by_cases h13 : c = 13
  · subst h13
    go_enter Tryd.func54, Tryd.ntmps54
    go_wp2_with fail
    refine HT2.out.mono ?_
    rintro e w1 ⟨rfl, rfl⟩
    go_wp2
    go_ret
    exact take_ok (Y := { X with place := 2 }) (H.out.s3 2) (Far.only (Only.set _ _ _) H.out.hb) ((step1 HP.out).trans (if_pos rfl))
  · have hc' : (c == 13) = false := by rw [beq_eq_false_iff_ne]; exact h13
    have hcv := one_byte w c
    have HBA := Aside0.mk (below_alloc (Below.refl w.heap.size w) (.cells #[.int .u8 c] 5))
    have HTX := Aside0.mk (octet_Text.calls _ _ (w.alloc (.cells #[.int .u8 c] 5)) (HG.out _ (HBA.out.mono hB)) (textB_eq c))
    go_enter Tryd.func54, Tryd.ntmps54
    go_wp2_with fail
    refine HTX.out.mono ?_
    rintro e w2 ⟨rfl, hb2⟩
    have HB2 := Aside0.mk (HBA.out.trans (hb2.mono HBA.out.size))
    have H2 := Aside0.mk (H.out.below HB2.out)
    have HF2 := Aside0.mk (show Far w w2 B b lv fv lv fv from Far.of_below HB2.out hB)
    clear hb2 hcv
    cases htx : textB c with
    | false =>
      go_wp2
      go_ret
      exact take_bad 2 H2.out HF2.out ((step1 HP.out).trans ((if_neg h13).trans (if_pos htx))) (by decide)
    | true =>
      have HX := Aside0.mk htx
      clear htx
      have k0 := H2.out.c0
      have k5 := H2.out.c5
      have z5 := H2.out.fz 5
      by_cases hle : e0 ≤ X.count
      · have hle' : (e0 : Int) ≤ (X.count : Int) := by omega
        go_wp2_with fail
        go_region_held3 (fun W => W.cell? ⟨b, 5, none⟩ = some (.int .i64 (X.count : Int)) ∧ W.cell? ⟨b, 0, none⟩ = some (.int .i64 (e0 : Int))) (exact ⟨k5, k0⟩) (fail)
        go_wp2
        go_ret
        exact take_bad 5 (H2.out.below (below_drew (Below.refl _ _))) (HF2.out.trans (Far.of_below (below_drew (Below.refl _ _)) (Nat.le_trans hB HF2.out.m.sz))) ((step1 HP.out).trans ((if_neg h13).trans ((if_neg (by show ¬ textB c = false; rw [HX.out]; decide)).trans (if_pos hle)))) (by decide)
      · have hle' : ¬ (e0 : Int) ≤ (X.count : Int) := by omega
        obtain ⟨n1, hn1⟩ : ∃ n1, X.count + 1 = n1 := ⟨_, rfl⟩
        have hw1 : IntKind.i64.wrap ((X.count : Int) + 1) = (n1 : Int) := by
          unfold IntKind.wrap
          simp [IntKind.bits, IntKind.signed]
          omega
        have HN := Aside0.mk hn1
        clear hn1
        go_wp2_with fail
        go_region_held3 (fun W => W.cell? ⟨b, 5, none⟩ = some (.int .i64 (X.count : Int)) ∧ W.cell? ⟨b, 0, none⟩ = some (.int .i64 (e0 : Int))) (exact ⟨k5, k0⟩) (fail)
        go_wp2
        go_ret
        refine take_ok (Y := { X with count := n1 }) (((H2.out.below (below_drew (Below.refl _ _))).s5 n1).count n1) ((HF2.out.trans (Far.of_below (below_drew (Below.refl _ _)) (Nat.le_trans hB HF2.out.m.sz))).trans (Far.only (Only.set _ _ _) H.out.hb)) ((step1 HP.out).trans ((if_neg h13).trans ((if_neg (by show ¬ textB c = false; rw [HX.out]; decide)).trans ((if_neg hle).trans ?_))))
        rw [HN.out]
set_option maxHeartbeats 4000000 in
set_option maxRecDepth 100000 in
theorem digit_does (B b e0 e1 e2 : Nat) (X : MSt Fld) (lv fv : Value) (tk gv : Nat) (c : Int) (w : World) (h : AtD w B b e0 e1 e2 X X.count lv fv tk gv 0) (hG : Keeps B w TabOk) (hB : B ≤ w.heap.size) (hb : 0 ≤ c ∧ c ≤ 255) (hco : X.count ≤ 1000000) (hn : X.n ≤ 4611686018427387903) (hp : X.place = 0) :
    Calls Tryd.prog 53 #[.pointer (some ⟨b, 0, none⟩), .int .u8 c] w (TakeD w B b e0 e1 e2 X lv fv tk gv c) := by
  have H := Aside0.mk h
  have HP := Aside0.mk hp
  have HG := Aside0.mk hG
  have hdg := digit_eq hb.1 hb.2
  have HDG := Aside0.mk (hexa_Digit.calls 5 c _ w (hG w (Below.refl _ _)) hdg.1)
  have hco' : ¬ X.count = 16 → ¬ (X.count : Int) = 16 := by omega
  clear h hp hG
  by_cases hneg : digI c < 0
  · have hneg' : ¬ (0 : Int) ≤ digI c := by omega
    have HNEG := Aside0.mk hneg'
    go_enter Tryd.func53, Tryd.ntmps53
    go_wp2_with fail
    refine HDG.out.mono ?_
    rintro e w1 ⟨rfl, hd1⟩
    have H1 := Aside0.mk (H.out.below hd1.below)
    have HF1 := Aside0.mk (show Far w w1 B b lv fv lv fv from Far.of_below hd1.below hB)
    have HB1 := Aside0.mk (Nat.le_trans hB hd1.below.size)
    clear hd1 HDG
    have k5 := H1.out.c5
    by_cases hz : X.count = 0
    · have hz' : ((X.count : Int) == 0) = true := by rw [beq_iff_eq]; omega
      rw [hz] at k5
      have HZ := Aside0.mk hz
      clear hz hz'
      go_wp2
      go_ret
      exact take_bad 2 H1.out HF1.out ((step0 HP.out).trans ((if_neg (Int.not_le.2 HNEG.out)).trans (if_pos (.inl HZ.out)))) (by decide)
    · have hz' : ((X.count : Int) == 0) = false := by rw [beq_eq_false_iff_ne]; omega
      by_cases h59 : c = 59
      · subst h59
        have HTX := Aside0.mk (show textB 59 = true by decide +kernel)
        have k3 := H1.out.c3
        have z3 := H1.out.fz 3
        have z5 := H1.out.fz 5
        go_upto_region 13 with (fail)
        obtain ⟨w2, hw2⟩ : ∃ w2, ((w1.setCell ⟨b, 5, none⟩ (.int .i64 0)).setCell ⟨b, 3, none⟩ (.int .i64 1)) = w2 := ⟨_, rfl⟩
        have H2 := Aside0.mk (show AtD w2 B b e0 e1 e2 { X with place := 1, count := 0 } 0 lv fv tk gv 0 by rw [← hw2]; exact (((H1.out.s5 0).s3 1).count 0))
        have HF2 := Aside0.mk (show Far w w2 B b lv fv lv fv by rw [← hw2]; exact (HF1.out.trans (Far.only (Only.set _ _ _) H.out.hb)).trans (Far.only (Only.set _ _ _) H.out.hb))
        rw [hw2]
        clear hw2 k3 k5 z3 z5
        have HE := Aside0.mk (extended_does B b e0 e1 e2 { X with place := 1, count := 0 } lv fv tk gv 59 w2 H2.out (fun W hW => HG.out W (HF2.out.b.trans hW)) (Nat.le_trans hB HF2.out.m.sz) (Nat.zero_le _) rfl)
        go_wp2_with fail
        refine HE.out.mono ?_
        rintro e w3 ⟨Y, co, lv', fv', er, rfl, h3, hf3, hm⟩
        have hms : mstep (envM e0 e1 e2) { X with place := 1, count := 0 } 59 = if e0 ≤ 0 then .error 5 else .ok { X with place := 1, count := 1 } := (step1 (s := { X with place := 1, count := 0 }) rfl).trans ((if_neg (by decide)).trans (if_neg (by show ¬ textB 59 = false; rw [HTX.out]; decide)))
        rw [hms] at hm
        have H3 := Aside0.mk h3
        have HF3 := Aside0.mk (HF2.out.trans hf3)
        have hst : mstep (envM e0 e1 e2) X 59 = if e0 < 1 then .error 5 else .ok { X with place := 1, count := 1 } := (step0 HP.out).trans ((if_neg (Int.not_le.2 HNEG.out)).trans ((if_neg (by simp [hz])).trans (if_neg (by decide))))
        have HST := Aside0.mk hst
        clear h3 hf3 HE hst
        by_cases he0 : e0 < 1
        · rw [if_pos (show e0 ≤ 0 by omega)] at hm
          obtain ⟨rfl, rfl⟩ : er = 5 ∧ Y = { X with place := 1, count := 0 } := by
            rcases hm with ⟨h, _⟩ | ⟨h, _, h2⟩
            · cases h
            · cases h; exact ⟨rfl, h2⟩
          clear hm
          have k3 := H3.out.c3
          have z3 := H3.out.fz 3
          have k5 := H3.out.c5
          have z5 := H3.out.fz 5
          go_wp2
          go_ret
          refine ⟨X, 1, lv', fv', 5, rfl, ?_, ((HF3.out.trans (Far.only (Only.set _ 5 (.int .i64 1)) H.out.hb)).trans (Far.only (Only.set _ 3 (.int .i64 0)) H.out.hb)), .inr ⟨HST.out.trans (if_pos he0), by decide, rfl⟩⟩
          have h4 := (H3.out.s5 1).s3 0
          exact ⟨h4.i.trans (by simp only [decC, HP.out]), h4.l, h4.f, h4.hb⟩
        · rw [if_neg (show ¬ e0 ≤ 0 by omega)] at hm
          obtain ⟨rfl, rfl, rfl⟩ : er = 0 ∧ Y = { X with place := 1, count := 1 } ∧ co = 1 := by
            rcases hm with ⟨h, h1, h2⟩ | ⟨h, _, _⟩
            · cases h; exact ⟨h1, rfl, h2⟩
            · cases h
          clear hm
          go_wp2
          go_ret
          exact take_ok H3.out HF3.out (HST.out.trans (if_neg he0))
      · have h59' : (c == 59) = false := by rw [beq_eq_false_iff_ne]; exact h59
        by_cases h13 : c = 13
        · subst h13
          have HT := Aside0.mk (to_on b 2 _ w1 H1.out.c3 (H1.out.fz 3))
          go_wp2_with fail
          refine HT.out.mono ?_
          rintro e w2 ⟨rfl, rfl⟩
          go_wp2
          go_ret
          exact take_ok (Y := { X with place := 2 }) (H1.out.s3 2) (HF1.out.trans (Far.only (Only.set _ _ _) H.out.hb)) ((step0 HP.out).trans ((if_neg (Int.not_le.2 HNEG.out)).trans ((if_neg (by simp [hz])).trans (if_pos rfl))))
        · have h13' : (c == 13) = false := by rw [beq_eq_false_iff_ne]; exact h13
          have HT := Aside0.mk (to_off b 2 w1)
          go_wp2_with fail
          refine HT.out.mono ?_
          rintro e w2 ⟨rfl, rfl⟩
          go_wp2
          go_ret
          exact take_bad 2 H1.out HF1.out ((step0 HP.out).trans ((if_neg (Int.not_le.2 HNEG.out)).trans (if_pos (.inr ⟨h59, h13⟩)))) (by decide)
  · have hneg' : (0 : Int) ≤ digI c := by omega
    have hmore := more_eq X.n hb.1 hb.2 hneg' hn
    have HNEG := Aside0.mk hneg'
    go_enter Tryd.func53, Tryd.ntmps53
    go_wp2_with fail
    refine HDG.out.mono ?_
    rintro e w1 ⟨rfl, hd1⟩
    have H1 := Aside0.mk (H.out.below hd1.below)
    have HF1 := Aside0.mk (show Far w w1 B b lv fv lv fv from Far.of_below hd1.below hB)
    clear hd1 HDG
    have k4 := H1.out.c4
    by_cases hle : X.n ≤ (4611686018427387903 - (digI c).toNat) / 16
    · rw [if_pos hle] at hmore
      obtain ⟨n2, hn2⟩ : ∃ n2, 16 * X.n + (digI c).toNat = n2 := ⟨_, rfl⟩
      rw [hn2] at hmore
      have HN2 := Aside0.mk hn2
      have HM := Aside0.mk (hexa_More.calls 5 (X.n : Int) c _ _ w1 (HG.out w1 HF1.out.b) hmore)
      clear hmore hn2
      go_wp2_with fail
      refine HM.out.mono ?_
      rintro e w2 ⟨rfl, hd2⟩
      have H2 := Aside0.mk (H1.out.below hd2.below)
      have HF2 := Aside0.mk (HF1.out.trans (Far.of_below hd2.below (Nat.le_trans hB HF1.out.m.sz)))
      clear hd2 HM k4
      have k5 := H2.out.c5
      by_cases hg16 : X.count = 16
      · rw [hg16] at k5
        have HG16 := Aside0.mk hg16
        clear hg16
        go_wp2
        go_ret
        exact take_bad 3 H2.out HF2.out ((step0 HP.out).trans ((if_pos HNEG.out).trans (if_pos (.inl HG16.out)))) (by decide)
      · have hg' : ((X.count : Int) == 16) = false := by rw [beq_eq_false_iff_ne]; omega
        have k4 := H2.out.c4
        have z4 := H2.out.fz 4
        have z5 := H2.out.fz 5
        obtain ⟨n1, hn1⟩ : ∃ n1, X.count + 1 = n1 := ⟨_, rfl⟩
        have hw1 : IntKind.i64.wrap ((X.count : Int) + 1) = (n1 : Int) := by
          unfold IntKind.wrap
          simp [IntKind.bits, IntKind.signed]
          omega
        have HN := Aside0.mk hn1
        clear hn1
        go_wp2
        go_ret
        refine take_ok (Y := { X with n := n2, count := n1 }) (((H2.out.s4 n2).s5 n1).count n1) ((HF2.out.trans (Far.only (Only.set _ _ _) H.out.hb)).trans (Far.only (Only.set _ _ _) H.out.hb)) ((step0 HP.out).trans ((if_pos HNEG.out).trans ((if_neg (fun h => h.elim hg16 (fun h => by have : (envM e0 e1 e2).dg c = digI c := rfl; rw [this] at h; omega))).trans ?_)))
        rw [← HN2.out, ← HN.out]
        rfl
    · rw [if_neg hle] at hmore
      have HM := Aside0.mk (hexa_More.calls 5 (X.n : Int) c _ _ w1 (HG.out w1 HF1.out.b) hmore)
      clear hmore
      go_wp2_with fail
      refine HM.out.mono ?_
      rintro e w2 ⟨rfl, hd2⟩
      have H2 := Aside0.mk (H1.out.below hd2.below)
      have HF2 := Aside0.mk (HF1.out.trans (Far.of_below hd2.below (Nat.le_trans hB HF1.out.m.sz)))
      clear hd2 HM k4
      have k5 := H2.out.c5
      have HB3 := Aside0.mk (take_bad (c := c) (X := X) 3 H2.out HF2.out ((step0 HP.out).trans ((if_pos HNEG.out).trans (if_pos (.inr (by have : (envM e0 e1 e2).dg c = digI c := rfl; rw [this]; omega))))) (by decide))
      by_cases hg16 : X.count = 16
      · rw [hg16] at k5
        go_wp2
        go_ret
        exact HB3.out
      · have hg' : ((X.count : Int) == 16) = false := by rw [beq_eq_false_iff_ne]; omega
        go_wp2
        go_ret
        exact HB3.out
end Go.Proofs.YtmmbpbgcobmifaaDoorH
end
section
namespace Go.Proofs.YtmmbpbgcobmifaaDoor.Pr
end Go.Proofs.YtmmbpbgcobmifaaDoor.Pr
namespace Go.Proofs.YtmmbpbgcobmifaaDoorH
set_option linter.unusedVariables false
set_option linter.unusedSimpArgs false
open Go Go.RowKit Go.Proofs.YtmmbpbgcobmifaaDoorW.PrintWords Go.Proofs.YtmmbpbgcobmifaaDoorW.PrintLast Go.Proofs.YtmmbpbgcobmifaaDoorW.PrintMore Go.Proofs.YtmmbpbgcobmifaaDoor.Pr Go.Proofs.YtmmbpbgcobmifaaDoorM
section
variable {W w1 : World} {B b e0 e1 e2 : Nat} {X : MSt Fld} {co : Nat} {lv fv : Value} {tk gv : Nat} {er : Int}
theorem AtD.push {v1 : Value} {c : Int} (h : AtD W B b e0 e1 e2 X co lv fv tk gv er) (hl : w1.ownsRow B 5 1 v1 (X.text.length + 1) (X.text.map (Value.int .u8) ++ [.int .u8 c])) (hb1 : Below B W w1) (hg : W.grownBy w1 lv.ownBlock) (hat : v1.ownBlock = lv.ownBlock ∨ ∃ b', v1.ownBlock = some b' ∧ W.heap.size ≤ b') :
    AtD (w1.setCell ⟨b, 8, none⟩ v1) B b e0 e1 e2 { X with text := X.text ++ [c] } co v1 fv tk gv er ∧ Far W (w1.setCell ⟨b, 8, none⟩ v1) B b lv fv v1 fv := by
  have hi : w1.heap[b]? = some (.cells (decC e0 e1 e2 X co lv fv tk gv er) 73 (0, 0)) := (hg.block b h.lt (fun e => h.nl e.symm)).trans h.i
  have hl1 : RowD w1 B v1 (X.text ++ [c]) := by
    unfold RowD
    rw [List.length_append, List.map_append]
    exact hl
  have hnb : v1.ownBlock ≠ some b := fun e => by
    obtain ⟨_, cs, hc⟩ := hl1.at b e
    have := hc.symm.trans hi
    cases this
  refine ⟨⟨by simpa using blk_set hi 8 v1, hl1.move fun k hk => Below.heap_setCell _ ⟨b, 8, none⟩ v1 k (fun e => hnb (hk.trans (by rw [e]))), h.f.move fun k hk => ?_, h.hb⟩, ⟨⟨?_, fun k ob hk hn => ?_, fun k hk => ?_⟩, hb1.trans ((Below.refl _ _).setCell (p := ⟨b, 8, none⟩) h.hb v1)⟩⟩
  · obtain ⟨_, cs, hc⟩ := h.f.at k hk
    rw [Below.heap_setCell _ ⟨b, 8, none⟩ v1 k (fun e => h.nf (hk.trans (by rw [e]))), hg.block k (blk_lt hc) (fun e => h.nlf k e.symm hk)]
  · exact Nat.le_trans hg.size (Only.set w1 8 v1 (b := b)).1.size
  · rw [Below.heap_setCell _ ⟨b, 8, none⟩ v1 k (fun e => hn (.inl e)), hg.block k (blk_lt hk) (fun e => hn (.inr (.inl e.symm)))]
    exact hk
  · rcases hk with rfl | hk | hk
    · exact .inl (.inl rfl)
    · rcases hat with e | ⟨b', e, hle⟩
      · exact .inl (.inr (.inl (e ▸ hk)))
      · rw [hk] at e
        cases e
        exact .inr hle
    · exact .inl (.inr (.inr hk))
end
theorem token_eq1 {c : Int} (hc : 0 ≤ c ∧ c ≤ 255) : octet_Token.f (strOfNums [c]) = some (tokI c) := all256 (p := fun c => octet_Token.f (strOfNums [c]) = some (tokI c)) (by decide +kernel) hc
set_option maxHeartbeats 4000000 in
set_option maxRecDepth 100000 in
theorem more_full (B b e0 e1 e2 : Nat) (X : MSt Fld) (co : Nat) (lv fv : Value) (tk gv : Nat) (c : Int) (p : Nat) (w : World) (h : AtD w B b e0 e1 e2 X co lv fv tk gv 0) (hB : B ≤ w.heap.size) (hs : e2 ≤ X.size) :
    Calls Tryd.prog 76 #[.pointer (some ⟨b, 0, none⟩), .int .u8 c, .int .i64 (p : Int)] w fun e w' => e = .returned (.int .i64 5) ∧ AtD w' B b e0 e1 e2 X co lv fv tk gv 0 ∧ Far w w' B b lv fv lv fv := by
  have H := Aside0.mk h
  have k2 := h.c2
  have k7 := h.c7
  have hs' : (e2 : Int) ≤ (X.size : Int) := by omega
  clear h
  go_enter Tryd.func76, Tryd.ntmps76
  go_wp2_with fail
  go_region_held3 (fun W => W.cell? ⟨b, 7, none⟩ = some (.int .i64 (X.size : Int)) ∧ W.cell? ⟨b, 2, none⟩ = some (.int .i64 (e2 : Int))) (exact ⟨k7, k2⟩) (fail)
  go_wp2
  go_ret
  exact ⟨rfl, H.out.below (below_drew (Below.refl _ _)), Far.of_below (below_drew (Below.refl _ _)) hB⟩
set_option maxHeartbeats 4000000 in
set_option maxRecDepth 100000 in
theorem more_on (B b e0 e1 e2 : Nat) (X : MSt Fld) (co : Nat) (lv fv : Value) (tk gv : Nat) (c : Int) (p : Nat) (w : World) (h : AtD w B b e0 e1 e2 X co lv fv tk gv 0) (hB : B ≤ w.heap.size) (hs : X.size < e2) (hz : X.size ≤ 1000000) (ht : X.text.length ≤ 1000000) :
    Calls Tryd.prog 76 #[.pointer (some ⟨b, 0, none⟩), .int .u8 c, .int .i64 (p : Int)] w fun e w' => ∃ lv', e = .returned (.int .i64 0) ∧ AtD w' B b e0 e1 e2 { X with size := X.size + 1, text := X.text ++ [c], place := p } co lv' fv tk gv 0 ∧ Far w w' B b lv fv lv' fv := by
  have H := Aside0.mk h
  have k2 := h.c2
  have k7 := h.c7
  have z7 := h.fz 7
  have hs' : ¬ (e2 : Int) ≤ (X.size : Int) := by omega
  obtain ⟨n1, hn1⟩ : ∃ n1, X.size + 1 = n1 := ⟨_, rfl⟩
  have hw1 : IntKind.i64.wrap ((X.size : Int) + 1) = (n1 : Int) := by
    unfold IntKind.wrap
    simp [IntKind.bits, IntKind.signed]
    omega
  rw [hn1]
  clear h hn1
  go_enter Tryd.func76, Tryd.ntmps76
  go_wp2_with fail
  go_region_held3 (fun W => W.cell? ⟨b, 7, none⟩ = some (.int .i64 (X.size : Int)) ∧ W.cell? ⟨b, 2, none⟩ = some (.int .i64 (e2 : Int))) (exact ⟨k7, k2⟩) (fail)
  go_upto_region 4 with (fail)
  obtain ⟨W, hW⟩ : ∃ W, (w.setCell ⟨b, 7, none⟩ (.int .i64 (n1 : Int))).drew = W := ⟨_, rfl⟩
  have H4 := Aside0.mk (show AtD W B b e0 e1 e2 { X with size := n1 } co lv fv tk gv 0 by rw [← hW]; exact (H.out.s7 n1).below (below_drew (Below.refl _ _)))
  have HF4 := Aside0.mk (show Far w W B b lv fv lv fv by rw [← hW]; exact (Far.only (Only.set _ _ _) H.out.hb).trans (Far.of_below (below_drew (Below.refl _ _)) (Nat.le_trans hB (Only.set w 7 _).1.size)))
  rw [hW]
  clear hW k2 k7 z7
  have k8 := H4.out.c8
  have hl : (X.text.length + 1) * 1 ≤ 140737488355328 := by omega
  have hBW := Nat.le_trans hB HF4.out.m.sz
  go_wp2_with ((with_reducible refine gate_builtin (b := .append) (xs := #[.tmp 28, .tmp 30]) rfl ?_); at_builtin; refine print_append_cells (w0 := W) B rfl (.tmp 28) (.tmp 30) 24 5 (.int .u8 0) 1 1 rfl Tryd.underlying24 info5 rfl (by decide) (by decide) lv X.text.length (X.text.map (Value.int .u8)) [.int .u8 c] rfl rfl rfl (fun u hu => by rw [List.mem_singleton] at hu; rw [hu]; rfl) H4.out.l (Below.refl _ _) hBW hl ?_; intro v1 w1 hown1 hb1 hg1 hat1; have hr1 : RowD w1 B v1 (X.text ++ [c]) := (by unfold RowD; rw [List.length_append, List.map_append]; exact hown1); obtain ⟨A1, c1, q1, _, _⟩ := hr1.reads; rw [show (X.text ++ [c]).length = X.text.length + 1 from by simp] at q1; subst q1; have HP := Aside0.mk (H4.out.push hown1 hb1 hg1 hat1); have z8 : w1.frozen? ⟨b, 8, none⟩ = false := blk_frozen ((hg1.block b H4.out.lt (fun e => H4.out.nl e.symm)).trans H4.out.i) 8; have k81 : w1.cell? ⟨b, 8, none⟩ = some lv := (blk_cell ((hg1.block b H4.out.lt (fun e => H4.out.nl e.symm)).trans H4.out.i) 8).trans rfl; have z3 : w1.frozen? ⟨b, 3, none⟩ = false := blk_frozen ((hg1.block b H4.out.lt (fun e => H4.out.nl e.symm)).trans H4.out.i) 3; have k31 : w1.cell? ⟨b, 3, none⟩ = some (.int .i64 (X.place : Int)) := (blk_cell ((hg1.block b H4.out.lt (fun e => H4.out.nl e.symm)).trans H4.out.i) 3).trans rfl; clear hown1 hb1 hg1 hat1 k8 hr1)
  go_ret
  exact ⟨rfl, _, HP.out.1.s3 p, (HF4.out.trans HP.out.2).trans (Far.only (Only.set _ _ _) H.out.hb)⟩
end Go.Proofs.YtmmbpbgcobmifaaDoorH
end
