import Derived.Test.YtmmbpbgcobmifaaGreatDoorZEnchunkBodyP5
import Derived.Test.YtmmbpbgcobmifaaGreatDoorZEnchunkBodyP1
import Derived.Test.YtmmbpbgcobmifaaGreatDoorZEnchunkBodyP6
import Derived.Test.YtmmbpbgcobmifaaGreatDoorZEnchunkBodyP4
import Derived.Test.YtmmbpbgcobmifaaGreatDoorZEnchunkBodyP3
import Derived.Test.YtmmbpbgcobmifaaGreatDoorRows
import Derived.LaidSub
import Derived.MakeChecks
import Derived.ProofKit
import Derived.OpenShut
import Derived.LaidMore
namespace Go.Proofs.YtmmbpbgcobmifaaGreatDoorW.PrintWords
end Go.Proofs.YtmmbpbgcobmifaaGreatDoorW.PrintWords
namespace Go.Proofs.YtmmbpbgcobmifaaGreatDoorW.PrintLast
end Go.Proofs.YtmmbpbgcobmifaaGreatDoorW.PrintLast
namespace Go.Proofs.YtmmbpbgcobmifaaGreatDoorW.PrintMore
end Go.Proofs.YtmmbpbgcobmifaaGreatDoorW.PrintMore
namespace Go.Proofs.YtmmbpbgcobmifaaGreatDoor.Pr
end Go.Proofs.YtmmbpbgcobmifaaGreatDoor.Pr
namespace Go.Proofs.YtmmbpbgcobmifaaGreatDoorM
end Go.Proofs.YtmmbpbgcobmifaaGreatDoorM
namespace Go.Proofs.YtmmbpbgcobmifaaGreatDoorH
end Go.Proofs.YtmmbpbgcobmifaaGreatDoorH
section
namespace Go.Proofs.YtmmbpbgcobmifaaGreatDoorH
open Go.RowKit Go.Proofs.YtmmbpbgcobmifaaGreatDoorW.PrintWords Go.Proofs.YtmmbpbgcobmifaaGreatDoorW.PrintLast Go.Proofs.YtmmbpbgcobmifaaGreatDoorW.PrintMore
theorem at_i64 {w : World} {A : Option Addr} {n : Nat} {xs : List Int} (h : Kd.C (Kd.int .i64) w A n xs) (k : Nat) (hk : k < n) : ∃ ad, A = some ad ∧ w.cell? (ad.add k) = some (.int .i64 (xs.getD k 0)) := by
  obtain ⟨ad, c, e, _, hK, hc0⟩ := Kd.C_get h 0 (k : Int) (by omega) (by omega)
  have hc : ∀ j u, c[j]? = some u → w.cell? (ad.add ((k : Int).toNat * 1 + j)) = some u := hc0
  rw [Int.toNat_natCast] at hK hc
  have hK : c = [.int .i64 (xs.getD k 0)] := hK
  subst hK
  refine ⟨ad, e, ?_⟩
  have := hc 0 _ rfl
  rwa [Nat.mul_one, Nat.add_zero] at this
def minZ (l : List Int) : Int := (l.drop 1).foldl min (l.getD 0 0)
def maxZ (l : List Int) : Int := (l.drop 1).foldl max (l.getD 0 0)
def minToZ (l : List Int) (k : Nat) : Int := ((l.take k).drop 1).foldl min (l.getD 0 0)
def maxToZ (l : List Int) (k : Nat) : Int := ((l.take k).drop 1).foldl max (l.getD 0 0)
theorem drop_take_stepZ (l : List Int) (k : Nat) (h1 : 1 ≤ k) (h : k < l.length) : (l.take (k + 1)).drop 1 = (l.take k).drop 1 ++ [l.getD k 0] := by
  rw [take_one l 0 k h, List.drop_append_of_le_length (by rw [List.length_take]; omega)]
theorem minToZ_step (l : List Int) (k : Nat) (h1 : 1 ≤ k) (h : k < l.length) : minToZ l (k + 1) = min (minToZ l k) (l.getD k 0) := by
  unfold minToZ
  rw [drop_take_stepZ l k h1 h, List.foldl_append]
  rfl
theorem maxToZ_step (l : List Int) (k : Nat) (h1 : 1 ≤ k) (h : k < l.length) : maxToZ l (k + 1) = max (maxToZ l k) (l.getD k 0) := by
  unfold maxToZ
  rw [drop_take_stepZ l k h1 h, List.foldl_append]
  rfl
set_option maxHeartbeats 800000 in
set_option maxRecDepth 100000 in
theorem minZ_calls (A0 : Option Addr) (c0 : Nat) (l : List Int) (w : World) (hr : Kd.C (Kd.int .i64) w A0 l.length l) (hn : 0 < l.length) (hl : l.length < 8796093022208) :
    Calls Tryz.prog 35 #[.slice A0 l.length c0] w fun e w' => e = .returned (.int .i64 (minZ l)) ∧ w' = w := by
  obtain ⟨ad, e, hx0⟩ := at_i64 hr 0 hn
  subst e
  rw [show ad.add 0 = ad from rfl] at hx0
  have HR := Aside0.mk hr
  have hn1 : ¬ (l.length : Int) < 1 := by omega
  clear hr
  go_enter Tryz.func35, Tryz.ntmps35
  go_wp2
  go_loop [3, 4] (fun v3 v4 => ∃ k : Nat, 1 ≤ k ∧ k ≤ l.length ∧ v4 = .int .i64 k ∧ v3 = .int .i64 (minToZ l k)) (fun _ v4 => l.length - (intOf v4).toNat)
  case atStart => exact ⟨1, Nat.le_refl _, hn, rfl, congrArg (Value.int IntKind.i64) (by unfold minToZ; cases l with | nil => exact absurd hn (Nat.lt_irrefl _) | cons a l => rfl)⟩
  case round =>
    obtain ⟨k, h1, hk, rfl, rfl⟩ := hrel
    by_cases hlt : k < l.length
    · obtain ⟨ad', e, hxk⟩ := at_i64 HR.out k hlt
      cases e
      have HS := Aside0.mk (minToZ_step l k h1 hlt)
      generalize l.getD k 0 = y at *
      generalize hmk : minToZ l k = m at *
      go_wp2
      go_round
      case rel => exact ⟨k + 1, by omega, hlt, by go_num, by rw [HS.out]⟩
      case measure => simp [intOf]; omega
    · obtain rfl : k = l.length := by omega
      have HM := Aside0.mk (show minToZ l l.length = minZ l by unfold minToZ minZ; rw [List.take_length])
      go_wp2
      go_ret
      exact ⟨by first | rfl | (simp; done) | (rw [HM.out]; first | rfl | simp), rfl⟩
set_option maxHeartbeats 800000 in
set_option maxRecDepth 100000 in
theorem maxZ_calls (A0 : Option Addr) (c0 : Nat) (l : List Int) (w : World) (hr : Kd.C (Kd.int .i64) w A0 l.length l) (hn : 0 < l.length) (hl : l.length < 8796093022208) :
    Calls Tryz.prog 36 #[.slice A0 l.length c0] w fun e w' => e = .returned (.int .i64 (maxZ l)) ∧ w' = w := by
  obtain ⟨ad, e, hx0⟩ := at_i64 hr 0 hn
  subst e
  rw [show ad.add 0 = ad from rfl] at hx0
  have HR := Aside0.mk hr
  have hn1 : ¬ (l.length : Int) < 1 := by omega
  clear hr
  go_enter Tryz.func36, Tryz.ntmps36
  go_wp2
  go_loop [3, 4] (fun v3 v4 => ∃ k : Nat, 1 ≤ k ∧ k ≤ l.length ∧ v4 = .int .i64 k ∧ v3 = .int .i64 (maxToZ l k)) (fun _ v4 => l.length - (intOf v4).toNat)
  case atStart => exact ⟨1, Nat.le_refl _, hn, rfl, congrArg (Value.int IntKind.i64) (by unfold maxToZ; cases l with | nil => exact absurd hn (Nat.lt_irrefl _) | cons a l => rfl)⟩
  case round =>
    obtain ⟨k, h1, hk, rfl, rfl⟩ := hrel
    by_cases hlt : k < l.length
    · obtain ⟨ad', e, hxk⟩ := at_i64 HR.out k hlt
      cases e
      have HS := Aside0.mk (maxToZ_step l k h1 hlt)
      generalize l.getD k 0 = y at *
      generalize hmk : maxToZ l k = m at *
      go_wp2
      go_round
      case rel => exact ⟨k + 1, by omega, hlt, by go_num, by rw [HS.out]⟩
      case measure => simp [intOf]; omega
    · obtain rfl : k = l.length := by omega
      have HM := Aside0.mk (show maxToZ l l.length = maxZ l by unfold maxToZ maxZ; rw [List.take_length])
      go_wp2
      go_ret
      exact ⟨by first | rfl | (simp; done) | (rw [HM.out]; first | rfl | simp), rfl⟩
end Go.Proofs.YtmmbpbgcobmifaaGreatDoorH
end
section
namespace Go.Proofs.YtmmbpbgcobmifaaGreatDoorH
open Go.RowKit Go.Proofs.YtmmbpbgcobmifaaGreatDoorW.PrintWords Go.Proofs.YtmmbpbgcobmifaaGreatDoorW.PrintLast Go.Proofs.YtmmbpbgcobmifaaGreatDoorW.PrintMore
def rightL (e0 e1 e2 : Int) : Bool := decide (0 ≤ e0) && decide (0 ≤ e1) && decide (0 ≤ e2) && decide (e0 ≤ 65536) && decide (e1 ≤ 65536) && decide (e2 ≤ 65536)
theorem minZ3 (a b c : Int) : minZ [a, b, c] = min (min a b) c := by simp [minZ, List.foldl]
theorem maxZ3 (a b c : Int) : maxZ [a, b, c] = max (max a b) c := by simp [maxZ, List.foldl]
theorem rightL_eq (a b c : Int) : rightL a b c = (decide (0 ≤ minZ [a, b, c]) && decide (maxZ [a, b, c] ≤ 65536)) := by
  rw [minZ3, maxZ3]
  unfold rightL
  rw [Bool.eq_iff_iff]
  simp only [Bool.and_eq_true, decide_eq_true_eq]
  omega
theorem C_three {W : World} {b : Nat} (a1 a2 a3 : Int) (h : W.heap[b]? = some (.cells #[.int .i64 a1, .int .i64 a2, .int .i64 a3] 3 (0, 0))) : Kd.C (Kd.int .i64) W (some ⟨b, 0, none⟩) ([a1, a2, a3] : List Int).length [a1, a2, a3] := by
  refine ⟨rfl, (show (3 : Nat) ≤ 9223372036854775807 by decide), fun _ => ⟨_, rfl, fun j x hx => ?_⟩⟩
  refine ⟨[.int .i64 x], rfl, rfl, fun i u hu => ?_⟩
  have e : i = 0 ∧ .int .i64 x = u := by
    cases i with
    | zero => exact ⟨rfl, by simpa using hu⟩
    | succ i => simp at hu
  obtain ⟨rfl, rfl⟩ := e
  match j, hx with
  | 0, hx => cases hx; exact World.news_of_block h 0 _ rfl
  | 1, hx => cases hx; exact World.news_of_block h 1 _ rfl
  | 2, hx => cases hx; exact World.news_of_block h 2 _ rfl
  | j + 3, hx => simp at hx
set_option maxHeartbeats 1600000 in
set_option maxRecDepth 100000 in
theorem bodyRight_calls (e0 e1 e2 : Int) (w : World) :
    Calls Tryz.prog 22 #[.agg #[.int .i64 e0, .int .i64 e1, .int .i64 e2]] w fun e w' => e = .returned (.bool (rightL e0 e1 e2)) ∧ Below w.heap.size w w' := by
  have HMI := Aside0.mk (fun W (h : W.heap[w.heap.size + 1]? = some (.cells #[.int .i64 e0, .int .i64 e1, .int .i64 e2] 3 (0, 0))) => minZ_calls (some ⟨w.heap.size + 1, 0, none⟩) 3 [e0, e1, e2] W (C_three e0 e1 e2 h) (show (0 : Nat) < 3 by decide) (show (3 : Nat) < 8796093022208 by decide))
  have HMA := Aside0.mk (fun W (h : W.heap[w.heap.size + 1]? = some (.cells #[.int .i64 e0, .int .i64 e1, .int .i64 e2] 3 (0, 0))) => maxZ_calls (some ⟨w.heap.size + 1, 0, none⟩) 3 [e0, e1, e2] W (C_three e0 e1 e2 h) (show (0 : Nat) < 3 by decide) (show (3 : Nat) < 8796093022208 by decide))
  have HE := Aside0.mk (rightL_eq e0 e1 e2)
  generalize minZ [e0, e1, e2] = x at *
  generalize maxZ [e0, e1, e2] = y at *
  have hb2 : ∀ o1 o2 : Obj, Below w.heap.size w ((w.alloc o1).alloc o2) := fun o1 o2 => below_alloc (below_alloc (Below.refl _ _) o1) o2
  have HB := Aside0.mk hb2
  clear hb2
  by_cases hx : 0 ≤ x
  · have hx' : decide (0 ≤ x) = true := decide_eq_true hx
    go_enter Tryz.func22, Tryz.ntmps22
    go_wp2_with fail
    refine (HMI.out _ (by simpa using heap_alloc_new (w.alloc _) _)).mono ?_
    rintro e w1 ⟨rfl, rfl⟩
    go_wp2_with fail
    refine (HMA.out _ (by simpa using heap_alloc_new (w.alloc _) _)).mono ?_
    rintro e w1 ⟨rfl, rfl⟩
    go_wp2
    go_ret
    refine ⟨?_, HB.out _ _⟩
    rw [HE.out, hx', Bool.true_and]
    rfl
  · have hx' : decide (0 ≤ x) = false := decide_eq_false hx
    go_enter Tryz.func22, Tryz.ntmps22
    go_wp2_with fail
    refine (HMI.out _ (by simpa using heap_alloc_new (w.alloc _) _)).mono ?_
    rintro e w1 ⟨rfl, rfl⟩
    go_wp2
    go_ret
    refine ⟨?_, HB.out _ _⟩
    rw [HE.out, hx', Bool.false_and]
    rfl
end Go.Proofs.YtmmbpbgcobmifaaGreatDoorH
end
section
namespace Go.Proofs.YtmmbpbgcobmifaaGreatDoor.Pr
end Go.Proofs.YtmmbpbgcobmifaaGreatDoor.Pr
namespace Go.Proofs.YtmmbpbgcobmifaaGreatDoorH
set_option linter.unusedVariables false
set_option linter.unusedSimpArgs false
open Go Go.RowKit Go.Proofs.YtmmbpbgcobmifaaGreatDoorW.PrintWords Go.Proofs.YtmmbpbgcobmifaaGreatDoorW.PrintLast Go.Proofs.YtmmbpbgcobmifaaGreatDoorW.PrintMore Go.Proofs.YtmmbpbgcobmifaaGreatDoor.Pr Go.Proofs.YtmmbpbgcobmifaaGreatDoorM
def bodyM (s : List Int) (e0 e1 e2 : Nat) : RM (List Fld) × List Int := scannedM (secM s e1 e2) s (e0 : Int)
def RLF (B : Nat) (W : World) (v : Value) (l : List Fld) : Prop := Kd.R k28 28 W B (fun _ => True) v l
theorem RLF.far {B : Nat} {W W' : World} {v : Value} {l : List Fld} {g t : Nat} {cs : Array Value} (h : RLF B W v l) (hb : W.heap[g]? = some (.cells cs t (0, 0))) (ht : ∀ q, q ∈ 28 :: (k28).E → q ≠ t) (hm : ∀ k, ¬ k = g → W'.heap[k]? = W.heap[k]?) : RLF B W' v l :=
  Kd.R_mono (Kd.R_move (Kd.R_types h hb ht) (fun k hk => hm k hk.2)) (fun _ _ => trivial)
theorem RLF.far2 {B : Nat} {W W' : World} {v : Value} {l : List Fld} {bB bE : Nat} {cs1 cs2 : Array Value} (h : RLF B W v l) (h1 : W.heap[bB]? = some (.cells cs1 42 (0, 0))) (h2 : W.heap[bE]? = some (.cells cs2 74 (0, 0))) (hm : ∀ k, ¬ k = bB → ¬ k = bE → W'.heap[k]? = W.heap[k]?) : RLF B W' v l :=
  Kd.R_mono (Kd.R_move (Kd.R_types (Kd.R_types h h1 (by decide)) h2 (by decide)) (fun k hk => hm k hk.1.2 hk.2)) (fun _ _ => trivial)
theorem scanned_does (B b : Nat) (A : Option Addr) (c : Nat) (e0 e1 e2 : Nat) (s : List Int) (w : World) (h : IsR w b A s.length c (e0 : Int) (e1 : Int) (e2 : Int) 0 (.slice none 0 0)) (hBb : B ≤ b) (hBw : B ≤ w.heap.size) (hC : Keeps B w fun W => Kd.C (Kd.int .u8) W A s.length s ∧ TabOk W) (hs : ByteL s) (hl : s.length ≤ 1073741824) (hsc : s.length ≤ c) (h1 : e1 ≤ 65536) (h2 : e2 ≤ 65536) :
    Calls Tryz.prog 23 #[.pointer (some ⟨b, 0, none⟩)] w (DoesS w B b A s.length c (e0 : Int) (e1 : Int) (e2 : Int) (RLF B) (bodyM s e0 e1 e2).1 (bodyM s e0 e1 e2).2) :=
  scanned_try B b A c (e0 : Int) (e1 : Int) (e2 : Int) s w h hBb hBw hC hs hl hsc (RLF B) (secM s e1 e2)
    (fun w1 W a dv D hb hA ha => (section_does w1 W B b A c (e0 : Int) e1 e2 a dv D s hA hBb (Nat.le_trans hBw hb.size) (fun W' hW' => hC W' (hb.trans hW')) hs hl hsc ha h1 h2).mono fun e w' hd => by
      unfold DoesF at hd
      cases hm : secM s e1 e2 a with
      | ok x => rw [hm] at hd; exact hd
      | error x => rw [hm] at hd; exact hd)
    (fun W W' v l bB bE cs1 cs2 h hB hE hm => h.far2 hB hE hm)
def toldM : RM (List Fld) × List Int → List Int × List Fld × Int × Int × Int
  | (.ok (l, a), D) => (D, l, (a : Int), (a : Int), 0)
  | (.error (a, er), _) => ([], [], 0, (a : Int), er)
def scanT (s : List Int) (e0 e1 e2 : Nat) : List Int × List Fld × Int × Int × Int := toldM (bodyM s e0 e1 e2)
def DoesT (w : World) (T : List Int × List Fld × Int × Int × Int) (e : Ending) (w' : World) : Prop :=
  ∃ v0 v1, e = .returned (.tuple #[.agg #[v0, v1, .int .i64 T.2.2.1], .int .i64 T.2.2.2.1, .int .i64 T.2.2.2.2]) ∧
    Kd.R (Kd.int .u8) 5 w' w.heap.size (fun _ => True) v0 T.1 ∧ Kd.R k28 28 w' w.heap.size (fun _ => True) v1 T.2.1 ∧ Below w.heap.size w w'
theorem R_of_D {W : World} {base : Nat} {v : Value} {l : List Int} (h : RowD W base v l) : Kd.R (Kd.int .u8) 5 W base (fun _ => True) v l := by
  have h1 : W.ownsRow base 5 (Kd.int .u8).sz v l.length (l.flatMap fun x => [Value.int .u8 x]) := by
    rw [flat_one]
    exact h
  exact row_of_owns (Kd.int .u8) (fun x => [Value.int .u8 x]) (fun _ => rfl) (fun _ _ => rfl) h1
theorem does_unify {w w' : World} {B b : Nat} {A : Option Addr} {n c : Nat} {e0 e1 e2 : Int} {M : RM (List Fld) × List Int} {T : List Int × List Fld × Int × Int × Int} {e : Ending} (h : DoesS w B b A n c e0 e1 e2 (RLF B) M.1 M.2 e w')
    (hT : T = toldM M) :
    ∃ x0 x1, e = .returned (.tuple #[.agg #[x0, x1, .int .i64 T.2.2.1], .agg #[.int .i64 T.2.2.2.1, .int .i64 T.2.2.2.2]]) ∧ Kd.R (Kd.int .u8) 5 w' B (fun _ => True) x0 T.1 ∧ RLF B w' x1 T.2.1 ∧ Below B w w' ∧ Fore b w w' := by
  obtain ⟨M, D⟩ := M
  obtain ⟨dv, h⟩ := h
  rcases M with ⟨a, er⟩ | ⟨l, a⟩
  · obtain ⟨rfl, hA⟩ := h
    subst hT
    exact ⟨_, _, rfl, Kd.R_nil _ _ _ _ _, Kd.R_nil _ _ _ _ _, hA.b, hA.f⟩
  · obtain ⟨v, hv, rfl, hA⟩ := h
    subst hT
    exact ⟨dv, v, rfl, R_of_D hA.r, hv, hA.b, hA.f⟩
theorem setB3 (bB : Nat) (x0 x1 x2 : Value) (w : World) (v0 v1 v2 : Value) (hB : w.heap[bB]? = some (.cells #[v0, v1, v2] 42 (0, 0))) :
    (((w.setCell ⟨bB, 0, none⟩ x0).setCell ⟨bB, 1, none⟩ x1).setCell ⟨bB, 2, none⟩ x2).heap[bB]? = some (.cells #[x0, x1, x2] 42 (0, 0)) ∧
    Below bB w (((w.setCell ⟨bB, 0, none⟩ x0).setCell ⟨bB, 1, none⟩ x1).setCell ⟨bB, 2, none⟩ x2) ∧
    (∀ k, ¬ k = bB → (((w.setCell ⟨bB, 0, none⟩ x0).setCell ⟨bB, 1, none⟩ x1).setCell ⟨bB, 2, none⟩ x2).heap[k]? = w.heap[k]?) ∧
    (((w.setCell ⟨bB, 0, none⟩ x0).setCell ⟨bB, 1, none⟩ x1).setCell ⟨bB, 2, none⟩ x2).heap.size = w.heap.size := by
  have h1 := blk_set hB 0 x0
  have h2 := blk_set h1 1 x1
  have h3 := blk_set h2 2 x2
  refine ⟨h3, (((Below.refl _ _).setCell (p := ⟨bB, 0, none⟩) (Nat.le_refl _) _).setCell (p := ⟨bB, 1, none⟩) (Nat.le_refl _) _).setCell (p := ⟨bB, 2, none⟩) (Nat.le_refl _) _, fun k h => ?_, by simp⟩
  rw [Below.heap_setCell _ ⟨bB, 2, none⟩ _ k h, Below.heap_setCell _ ⟨bB, 1, none⟩ _ k h, Below.heap_setCell _ ⟨bB, 0, none⟩ _ k h]
theorem scan_start (w : World) (e0 e1 e2 : Int) :
    let W := (w.alloc (.cells #[.int .i64 e0, .int .i64 e1, .int .i64 e2] 46)).alloc (.cells zeroBody 42)
    W.heap.size = w.heap.size + 2 ∧ W.heap[w.heap.size]? = some (.cells #[.int .i64 e0, .int .i64 e1, .int .i64 e2] 46 (0, 0)) ∧ W.heap[w.heap.size + 1]? = some (.cells zeroBody 42 (0, 0)) ∧ Below w.heap.size w W := by
  have hs : ∀ (W : World) (o : Obj), (W.alloc o).heap.size = W.heap.size + 1 := fun W o => World.size_alloc W o
  refine ⟨by simp only [hs], alloc_keep _ (World.alloc_heap_new w _), ?_, below_alloc (below_alloc (Below.refl _ _) _) _⟩
  have := World.alloc_heap_new (w.alloc (.cells #[.int .i64 e0, .int .i64 e1, .int .i64 e2] 46)) (.cells zeroBody 42)
  rwa [hs] at this
set_option maxHeartbeats 8000000 in
set_option maxRecDepth 100000 in
theorem scan_bad (A : Option Addr) (n c : Nat) (e0 e1 e2 : Int) (w : World) (hr : rightL e0 e1 e2 = false) :
    Calls Tryz.prog 12 #[.slice A n c, .agg #[.int .i64 e0, .int .i64 e1, .int .i64 e2]] w fun e w' => e = .returned (.tuple #[.agg zeroBody, .int .i64 0, .int .i64 1]) ∧ Below w.heap.size w w' := by
  have HRI := Aside0.mk (fun W => bodyRight_calls e0 e1 e2 W)
  rw [hr] at HRI
  clear hr
  go_enter Tryz.func12, Tryz.ntmps12
  go_wp2_with fail
  refine (HRI.out _).mono ?_
  rintro e W2 ⟨rfl, hb2⟩
  obtain ⟨q1, q2, q3, q4⟩ := scan_start w e0 e1 e2
  have p3 : W2.heap[w.heap.size + 1]? = some (.cells zeroBody 42 (0, 0)) := (hb2.block _ (blk_lt q3)).trans q3
  have HBW := Aside0.mk (show Below w.heap.size w W2 from q4.trans (hb2.mono (by exact q4.size)))
  have k0 : W2.cell? ⟨w.heap.size + 1, 0, none⟩ = some (.slice none 0 0) := (blk_cell p3 0).trans rfl
  have k1 : W2.cell? ⟨w.heap.size + 1, 1, none⟩ = some (.slice none 0 0) := (blk_cell p3 1).trans rfl
  have k2 : W2.cell? ⟨w.heap.size + 1, 2, none⟩ = some (.int .i64 0) := (blk_cell p3 2).trans rfl
  have f0 : W2.frozen? ⟨w.heap.size + 1, 0, none⟩ = false := blk_frozen p3 0
  have f1 : W2.frozen? ⟨w.heap.size + 1, 1, none⟩ = false := blk_frozen p3 1
  have f2 : W2.frozen? ⟨w.heap.size + 1, 2, none⟩ = false := blk_frozen p3 2
  obtain ⟨W3, z1, z2, z3, _⟩ := setB (w.heap.size + 1) _ _ _ W2 p3
  have Z1 := Aside0.mk z1
  have Z2 := Aside0.mk z2
  have Z3 := Aside0.mk z3
  clear hb2 q1 q2 q3 q4 p3 z1 z2 z3
  go_wp2
  rw [Z1.out]
  refine bodyPost_ret (results_ctt rfl _ _ (w.heap.size + 1) 42 zeroBody (0, 0) _ rfl Z2.out Tryz.underlying42 rfl (by kernel_rfl)) rfl ?_
  exact ⟨rfl, HBW.out.trans (Z3.out.mono (Nat.le_succ _))⟩
set_option maxHeartbeats 8000000 in
set_option maxRecDepth 100000 in
theorem scan_good (A : Option Addr) (c : Nat) (s : List Int) (e0 e1 e2 : Nat) (w : World) (hr : rightL (e0 : Int) (e1 : Int) (e2 : Int) = true) (h1 : e1 ≤ 65536) (h2 : e2 ≤ 65536) (hC : Kd.C (Kd.int .u8) w A s.length s) (hG : TabOk w) (hs : ByteL s) (hl : s.length ≤ 1073741824) (hsc : s.length ≤ c) :
    Calls Tryz.prog 12 #[.slice A s.length c, .agg #[.int .i64 (e0 : Int), .int .i64 (e1 : Int), .int .i64 (e2 : Int)]] w (DoesT w (scanT s e0 e1 e2)) := by
  have HRI := Aside0.mk (fun W => bodyRight_calls (e0 : Int) (e1 : Int) (e2 : Int) W)
  rw [hr] at HRI
  have HK := Aside0.mk (fun (W : World) (h : Below w.heap.size w W) => (⟨Kd.C_below hC h, hG.below h⟩ : Kd.C (Kd.int .u8) W A s.length s ∧ TabOk W))
  have HSD := Aside0.mk (fun (b : Nat) (W : World) (hi : IsR W b A s.length c (e0 : Int) (e1 : Int) (e2 : Int) 0 (.slice none 0 0)) (hb : w.heap.size ≤ b) (hw : Below w.heap.size w W) => scanned_does w.heap.size b A c e0 e1 e2 s W hi hb hw.size (fun W' hW' => HK.out W' (hw.trans hW')) hs hl hsc h1 h2)
  have HT := Aside0.mk (show scanT s e0 e1 e2 = toldM (bodyM s e0 e1 e2) from rfl)
  generalize scanT s e0 e1 e2 = T at *
  generalize bodyM s e0 e1 e2 = M at *
  clear hr hC hG hs
  go_enter Tryz.func12, Tryz.ntmps12
  go_wp2_with fail
  refine (HRI.out _).mono ?_
  rintro e W2 ⟨rfl, hb2⟩
  obtain ⟨q1, q2, q3, q4⟩ := scan_start w (e0 : Int) (e1 : Int) (e2 : Int)
  have p2 : W2.heap[w.heap.size]? = some (.cells #[.int .i64 (e0 : Int), .int .i64 (e1 : Int), .int .i64 (e2 : Int)] 46 (0, 0)) := (hb2.block _ (blk_lt q2)).trans q2
  have p3 : W2.heap[w.heap.size + 1]? = some (.cells zeroBody 42 (0, 0)) := (hb2.block _ (blk_lt q3)).trans q3
  have hbw : Below w.heap.size w W2 := q4.trans (hb2.mono (by exact q4.size))
  have m0 : W2.cell? ⟨w.heap.size, 0, none⟩ = some (.int .i64 (e0 : Int)) := (blk_cell p2 0).trans rfl
  have m1 : W2.cell? ⟨w.heap.size, 1, none⟩ = some (.int .i64 (e1 : Int)) := (blk_cell p2 1).trans rfl
  have m2 : W2.cell? ⟨w.heap.size, 2, none⟩ = some (.int .i64 (e2 : Int)) := (blk_cell p2 2).trans rfl
  have HB2 := Aside0.mk hbw
  have P3 := Aside0.mk p3
  clear hb2 q1 q2 q3 q4 p2 p3 hbw
  go_wp2_with fail
  have HAL := Aside0.mk (below_alloc HB2.out (.cells #[.slice A s.length c, .int .i64 (e0 : Int), .int .i64 (e1 : Int), .int .i64 (e2 : Int), .int .i64 0, .slice none 0 0] 72))
  refine (HSD.out W2.heap.size _ (World.alloc_heap_new W2 _) HB2.out.size HAL.out).mono ?_
  rintro e w3 hd
  obtain ⟨x0, x1, rfl, hx0, hx1, hb3, hf3⟩ := does_unify hd HT.out
  have hB3 : w3.heap[w.heap.size + 1]? = some (.cells zeroBody 42 (0, 0)) := hf3 _ _ _ (by decide) (by have := blk_lt P3.out; omega) (alloc_keep _ P3.out)
  have HB3 := Aside0.mk (HAL.out.trans hb3)
  obtain ⟨a0, k0, rfl⟩ := Kd.R_slice hx0
  obtain ⟨a1, k1, rfl⟩ := Kd.R_slice hx1
  obtain ⟨tD, tl, ts, ta, te⟩ := T
  dsimp only at hx0 hx1 ⊢
  have hlt3 := blk_lt hB3
  have HX0 := Aside0.mk hx0
  have HX1 := Aside0.mk hx1
  clear hd hb3 hf3 hx0 hx1 HT HSD HRI HK
  obtain ⟨s1, s2, s3, s4⟩ := setB3 (w.heap.size + 1) (.slice a0 tD.length k0) (.slice a1 tl.length k1) (.int .i64 ts) w3 _ _ _ hB3
  have n0 : w3.cell? ⟨w.heap.size + 1, 0, none⟩ = some (.slice none 0 0) := (blk_cell hB3 0).trans rfl
  have n1 : w3.cell? ⟨w.heap.size + 1, 1, none⟩ = some (.slice none 0 0) := (blk_cell hB3 1).trans rfl
  have n2 : w3.cell? ⟨w.heap.size + 1, 2, none⟩ = some (.int .i64 0) := (blk_cell hB3 2).trans rfl
  have f0 : w3.frozen? ⟨w.heap.size + 1, 0, none⟩ = false := blk_frozen hB3 0
  have f1 : w3.frozen? ⟨w.heap.size + 1, 1, none⟩ = false := blk_frozen hB3 1
  have f2 : w3.frozen? ⟨w.heap.size + 1, 2, none⟩ = false := blk_frozen hB3 2
  have HB3' := Aside0.mk hB3
  have S1 := Aside0.mk s1
  have S2 := Aside0.mk s2
  have S3 := Aside0.mk s3
  have S4 := Aside0.mk s4
  clear hB3 s1 s2 s3 s4
  go_wp2_with fail
  obtain ⟨W4, hW4⟩ : ∃ W4, ((w3.setCell ⟨w.heap.size + 1, 0, none⟩ (.slice a0 tD.length k0)).setCell ⟨w.heap.size + 1, 1, none⟩ (.slice a1 tl.length k1)).setCell ⟨w.heap.size + 1, 2, none⟩ (.int .i64 ts) = W4 := ⟨_, rfl⟩
  rw [hW4] at S1 S2 S3 S4
  rw [hW4]
  have hE5 := World.alloc_heap_new W4 (.cells #[.int .i64 ta, .int .i64 te] 74)
  have hB5 := alloc_keep (.cells #[.int .i64 ta, .int .i64 te] 74) S1.out
  have hb5 : Below W4.heap.size W4 (W4.alloc (.cells #[.int .i64 ta, .int .i64 te] 74)) := below_alloc (Below.refl _ _) _
  rw [S4.out] at hE5
  have HX15 := Aside0.mk (show RLF w.heap.size (W4.alloc (.cells #[.int .i64 ta, .int .i64 te] 74)) (.slice a1 tl.length k1) tl from Kd.R_below (RLF.far HX1.out HB3'.out (by decide) S3.out) hb5)
  have HX05 := Aside0.mk (show Kd.R (Kd.int .u8) 5 (W4.alloc (.cells #[.int .i64 ta, .int .i64 te] 74)) w.heap.size (fun _ => True) (.slice a0 tD.length k0) tD from
    Kd.R_below (Kd.R_mono (Kd.R_move (Kd.R_types HX0.out HB3'.out (by decide)) (fun k hk => S3.out k hk.2)) (fun _ _ => trivial)) hb5)
  have HBL5 := Aside0.mk (show Below w.heap.size w (W4.alloc (.cells #[.int .i64 ta, .int .i64 te] 74)) from below_alloc (HB3.out.trans (S2.out.mono (Nat.le_succ _))) _)
  generalize W4.alloc (.cells #[.int .i64 ta, .int .i64 te] 74) = W5 at *
  clear hb5 hW4 n0 n1 n2 f0 f1 f2 S1 S2 S3 S4
  generalize hbB : w.heap.size + 1 = bB at *
  generalize hbE : w3.heap.size = bE at *
  have HbB := Aside0.mk hbB
  clear hbE
  obtain ⟨s1, s2, s3, s4⟩ := setB3 bB (.slice a0 tD.length k0) (.slice a1 tl.length k1) (.int .i64 ts) W5 _ _ _ hB5
  have S1 := Aside0.mk s1
  have S2 := Aside0.mk s2
  have S3 := Aside0.mk s3
  have hne : ¬ bE = bB := by omega
  have hE6 := (s3 bE hne).trans hE5
  have u0 : (((W5.setCell ⟨bB, 0, none⟩ (.slice a0 tD.length k0)).setCell ⟨bB, 1, none⟩ (.slice a1 tl.length k1)).setCell ⟨bB, 2, none⟩ (.int .i64 ts)).drew.cell? ⟨bB, 0, none⟩ = some (.slice a0 tD.length k0) := (blk_cell s1 0).trans rfl
  have u1 : (((W5.setCell ⟨bB, 0, none⟩ (.slice a0 tD.length k0)).setCell ⟨bB, 1, none⟩ (.slice a1 tl.length k1)).setCell ⟨bB, 2, none⟩ (.int .i64 ts)).drew.cell? ⟨bB, 1, none⟩ = some (.slice a1 tl.length k1) := (blk_cell s1 1).trans rfl
  have u2 : (((W5.setCell ⟨bB, 0, none⟩ (.slice a0 tD.length k0)).setCell ⟨bB, 1, none⟩ (.slice a1 tl.length k1)).setCell ⟨bB, 2, none⟩ (.int .i64 ts)).drew.cell? ⟨bB, 2, none⟩ = some (.int .i64 ts) := (blk_cell s1 2).trans rfl
  have u3 : (((W5.setCell ⟨bB, 0, none⟩ (.slice a0 tD.length k0)).setCell ⟨bB, 1, none⟩ (.slice a1 tl.length k1)).setCell ⟨bB, 2, none⟩ (.int .i64 ts)).drew.cell? ⟨bE, 0, none⟩ = some (.int .i64 ta) := (blk_cell hE6 0).trans rfl
  have u4 : (((W5.setCell ⟨bB, 0, none⟩ (.slice a0 tD.length k0)).setCell ⟨bB, 1, none⟩ (.slice a1 tl.length k1)).setCell ⟨bB, 2, none⟩ (.int .i64 ts)).drew.cell? ⟨bE, 1, none⟩ = some (.int .i64 te) := (blk_cell hE6 1).trans rfl
  have n0 : W5.cell? ⟨bB, 0, none⟩ = some (.slice a0 tD.length k0) := (blk_cell hB5 0).trans rfl
  have n1 : W5.cell? ⟨bB, 1, none⟩ = some (.slice a1 tl.length k1) := (blk_cell hB5 1).trans rfl
  have n2 : W5.cell? ⟨bB, 2, none⟩ = some (.int .i64 ts) := (blk_cell hB5 2).trans rfl
  have n3 : W5.cell? ⟨bE, 0, none⟩ = some (.int .i64 ta) := (blk_cell hE5 0).trans rfl
  have n4 : W5.cell? ⟨bE, 1, none⟩ = some (.int .i64 te) := (blk_cell hE5 1).trans rfl
  have d0 : W5.drew.cell? ⟨bB, 0, none⟩ = some (.slice a0 tD.length k0) := n0
  have d1 : W5.drew.cell? ⟨bB, 1, none⟩ = some (.slice a1 tl.length k1) := n1
  have d2 : W5.drew.cell? ⟨bB, 2, none⟩ = some (.int .i64 ts) := n2
  have d3 : W5.drew.cell? ⟨bE, 0, none⟩ = some (.int .i64 ta) := n3
  have d4 : W5.drew.cell? ⟨bE, 1, none⟩ = some (.int .i64 te) := n4
  have f0 : W5.frozen? ⟨bB, 0, none⟩ = false := blk_frozen hB5 0
  have f1 : W5.frozen? ⟨bB, 1, none⟩ = false := blk_frozen hB5 1
  have f2 : W5.frozen? ⟨bB, 2, none⟩ = false := blk_frozen hB5 2
  have HB5 := Aside0.mk hB5
  clear s1 s2 s3 s4 hE6 hB5 hE5 hbB
  go_region_held3 (fun W => W.cell? ⟨bB, 0, none⟩ = some (.slice a0 tD.length k0) ∧ W.cell? ⟨bB, 1, none⟩ = some (.slice a1 tl.length k1) ∧ W.cell? ⟨bB, 2, none⟩ = some (.int .i64 ts) ∧ W.cell? ⟨bE, 0, none⟩ = some (.int .i64 ta) ∧ W.cell? ⟨bE, 1, none⟩ = some (.int .i64 te))
    (first | with_reducible exact ⟨d0, d1, d2, d3, d4⟩ | with_reducible exact ⟨u0, u1, u2, u3, u4⟩) (fail)
  all_goals
    generalize hW6 : (((W5.setCell ⟨bB, 0, none⟩ (.slice a0 tD.length k0)).setCell ⟨bB, 1, none⟩ (.slice a1 tl.length k1)).setCell ⟨bB, 2, none⟩ (.int .i64 ts)) = W6 at *
    clear d0 d1 d2 d3 d4 u0 u1 u2 u3 u4 n0 n1 n2 n3 n4 f0 f1 f2 m0 m1 m2
    go_wp2
    refine bodyPost_ret (results_ctt rfl _ _ bB 42 #[.slice a0 tD.length k0, .slice a1 tl.length k1, .int .i64 ts] (0, 0) _ rfl S1.out Tryz.underlying42 rfl (by kernel_rfl)) rfl ?_
    refine ⟨_, _, rfl, ?_, ?_, ?_⟩
    · exact Kd.R_drew (Kd.R_mono (Kd.R_move (Kd.R_types HX05.out HB5.out (by decide)) (fun k hk => S3.out k hk.2)) (fun _ _ => trivial))
    · exact Kd.R_drew (RLF.far HX15.out HB5.out (by decide) S3.out)
    · exact below_drew (HBL5.out.trans (S2.out.mono (by rw [← HbB.out]; exact Nat.le_succ _)))
def byteB (l : List Int) : Bool := l.all fun x => decide (0 ≤ x) && decide (x ≤ 255)
theorem byteB_iff {l : List Int} : byteB l = true ↔ ByteL l := by
  unfold byteB ByteL
  simp [List.all_eq_true]
theorem rightL_nat {a b c : Int} (h : rightL a b c = true) : ∃ x y z : Nat, a = (x : Int) ∧ b = (y : Int) ∧ c = (z : Int) ∧ x ≤ 65536 ∧ y ≤ 65536 ∧ z ≤ 65536 := by
  unfold rightL at h
  simp only [Bool.and_eq_true, decide_eq_true_eq] at h
  exact ⟨a.toNat, b.toNat, c.toNat, by omega, by omega, by omega, by omega, by omega, by omega⟩
def body_Right.f (a0 a1 a2 : Int) : Option Bool := some (rightL a0 a1 a2)
def body_Scan.f (l0 : List Int) (a1_0 a1_1 a1_2 : Int) : Option (List Int × List S28 × Int × Int × Int) :=
  if l0.length ≤ 1073741824 ∧ byteB l0 = true then some (if rightL a1_0 a1_1 a1_2 = true then scanT l0 a1_0.toNat a1_1.toNat a1_2.toNat else ([], [], 0, 0, 1)) else none
theorem body_Scan.calls (A0 : Option Addr) (c0 : Nat) (l0 : List Int) (a1_0 a1_1 a1_2 : Int) (r1 : List Int) (r2 : List S28) (r3 r4 r5 : Int) (w : World) (hr0 : Kd.C (Kd.int .u8) w A0 l0.length l0) (hc0 : l0.length ≤ c0) (hG : TabOk w) (h : body_Scan.f l0 a1_0 a1_1 a1_2 = some (r1, r2, r3, r4, r5)) :
    Calls Tryz.prog 12 #[.slice A0 l0.length c0, .agg #[.int .i64 a1_0, .int .i64 a1_1, .int .i64 a1_2]] w fun e w' => ∃ v0_ v1_ : Value, e = .returned (.tuple #[.agg #[v0_, v1_, .int .i64 r3], .int .i64 r4, .int .i64 r5]) ∧ Kd.R (Kd.int .u8) 5 w' w.heap.size (fun _ => True) v0_ r1 ∧ Kd.R k28 28 w' w.heap.size (fun _ => True) v1_ r2 ∧ Below w.heap.size w w' := by
  unfold body_Scan.f at h
  split at h
  · rename_i hh
    injection h with h
    by_cases hr : rightL a1_0 a1_1 a1_2 = true
    · rw [if_pos hr] at h
      obtain ⟨x, y, z, rfl, rfl, rfl, _, hy, hz⟩ := rightL_nat hr
      simp only [Int.toNat_natCast] at h
      refine (scan_good A0 c0 l0 x y z w hr hy hz hr0 hG (byteB_iff.1 hh.2) hh.1 hc0).mono ?_
      rintro e w' hd
      rw [h] at hd
      exact hd
    · rw [if_neg hr] at h
      cases h
      refine (scan_bad A0 l0.length c0 a1_0 a1_1 a1_2 w (by simpa using hr)).mono ?_
      rintro e w' ⟨rfl, hb⟩
      exact ⟨_, _, rfl, Kd.R_nil _ _ _ _ _, Kd.R_nil _ _ _ _ _, hb⟩
  · cases h
def body_Payload.f (l0 : List Int) (a1_0 a1_1 a1_2 : Int) : Option (List Int) :=
  if l0.length ≤ 1073741824 ∧ byteB l0 = true then some (if rightL a1_0 a1_1 a1_2 = true then (bodyM l0 a1_0.toNat a1_1.toNat a1_2.toNat).2 else []) else none
end Go.Proofs.YtmmbpbgcobmifaaGreatDoorH
end
section
namespace Go.Proofs.YtmmbpbgcobmifaaGreatDoor.Pr
end Go.Proofs.YtmmbpbgcobmifaaGreatDoor.Pr
namespace Go.Proofs.YtmmbpbgcobmifaaGreatDoorH
set_option linter.unusedVariables false
set_option linter.unusedSimpArgs false
open Go.RowKit Go.Proofs.YtmmbpbgcobmifaaGreatDoorW.PrintWords Go.Proofs.YtmmbpbgcobmifaaGreatDoorW.PrintLast Go.Proofs.YtmmbpbgcobmifaaGreatDoorW.PrintMore Go.Proofs.YtmmbpbgcobmifaaGreatDoor.Pr Go.Proofs.YtmmbpbgcobmifaaGreatDoorM
def pfM (l : List Int) : Fld := fldOf (strOfNums l)
def envM (e0 e1 e2 : Nat) : MEnv Fld := ⟨digI, textB, tokI, pfM, e0, e1, e2⟩
theorem all256 {p : Int → Prop} (h : ∀ n : Fin 256, p (n.val : Int)) {c : Int} (hc : 0 ≤ c ∧ c ≤ 255) : p c := by
  have := h ⟨c.toNat, by omega⟩
  rw [show ((⟨c.toNat, by omega⟩ : Fin 256).val : Int) = c by show (c.toNat : Int) = c; omega] at this
  exact this
theorem goodM (e0 e1 e2 : Nat) : Good (envM e0 e1 e2) :=
  ⟨fun _ => rfl, fun _ => rfl, by decide +kernel, by decide +kernel, by decide +kernel, by decide +kernel, by decide +kernel, (show tokI 13 = false by decide +kernel), (show tokI 10 = false by decide +kernel), (show tokI 58 = false by decide +kernel)⟩
theorem nextM (e0 e1 e2 : Nat) : NextOk (envM e0 e1 e2) nxt (fun c => 0 ≤ c ∧ c ≤ 255) :=
  ⟨fun _ hc => all256 (p := fun c => nxt 0 c = if c = 13 then (4, true) else (1, tokI c)) (by decide +kernel) hc,
   fun _ hc => all256 (p := fun c => nxt 1 c = if c = 58 then (2, true) else (1, tokI c)) (by decide +kernel) hc,
   fun _ hc => all256 (p := fun c => nxt 2 c = if c = 13 then (3, true) else (2, textB c)) (by decide +kernel) hc,
   fun _ hc => all256 (p := fun c => nxt 3 c = (0, c == 10)) (by decide +kernel) hc,
   fun _ hc => all256 (p := fun c => nxt 4 c = (5, c == 10)) (by decide +kernel) hc,
   (show tokI 10 = false by decide +kernel), (show tokI 13 = false by decide +kernel), (show textB 10 = false by decide +kernel), (show textB 13 = false by decide +kernel)⟩
theorem bt_nums {r : List Int} (hb : ByteL r) {i : Nat} (h : i < r.length) : bt (strOfNums r) (i : Int) = r.getD i 0 := by
  have hs : (strOfNums r).size = r.length := Go.strOfNums_size r
  rw [bt_nat _ i (by omega), strOfNums_data]
  have hx := hb _ (List.getElem_mem h)
  rw [List.getD_eq_getElem?_getD, List.getD_eq_getElem?_getD, List.getElem?_map, List.getElem?_eq_getElem h]
  simp only [Option.map_some, Option.getD_some]
  rw [UInt8.toNat_ofNat']
  omega
theorem scanP_I {r : List Int} (hb : ByteL r) : ∀ (k i : Nat) (st : Int), i ≤ r.length → r.length - i < k → scanP k (strOfNums r) i st = scanI nxt i (r.drop i) st
  | 0, i, st, h1, h2 => by omega
  | k + 1, i, st, h1, h2 => by
    have hs : (strOfNums r).size = r.length := Go.strOfNums_size r
    by_cases h : i < r.length
    · rw [scanP, if_pos (by omega), bt_nums hb h, drop_at h, scanI, scanP_I hb k (i + 1) _ (by omega) (by omega)]
    · rw [scanP, if_neg (by omega), List.drop_eq_nil_of_le (by omega), scanI]
theorem u8_ne {c : Int} (hc : 0 ≤ c ∧ c ≤ 255) {d : Nat} (hd : d < 256) (h : c ≠ (d : Int)) : UInt8.ofNat c.toNat ≠ UInt8.ofNat d := by
  intro e
  have := congrArg UInt8.toNat e
  rw [UInt8.toNat_ofNat', UInt8.toNat_ofNat'] at this
  omega
theorem index_crlfM : ∀ (a r : List UInt8), (∀ c ∈ a, c ≠ 13) → Lib.index (a ++ 13 :: 10 :: r) [13, 10] = (a.length : Int)
  | [], r, _ => by
    rw [List.nil_append, Lib.index, if_pos (by rfl)]
    rfl
  | c :: a, r, h => by
    have ih := index_crlfM a r (fun d hd => h d (List.mem_cons_of_mem _ hd))
    have hc := h c List.mem_cons_self
    rw [List.cons_append, Lib.index, ih]
    rw [if_neg (by
      intro hp
      rw [List.isPrefixOf] at hp
      have := (Bool.and_eq_true _ _ ▸ hp).1
      exact hc (beq_iff_eq.1 this).symm), if_neg (by rw [beq_iff_eq]; omega), List.length_cons]
    omega
theorem cut_crlfM (a r : List UInt8) (h : ∀ c ∈ a, c ≠ 13) : Lib.cut (a ++ 13 :: 10 :: r) [13, 10] = (a, r, true) := by
  unfold Lib.cut
  rw [index_crlfM a r h, if_pos (by omega)]
  simp only [Int.toNat_natCast, List.take_left, List.length_cons, List.length_nil]
  congr 2
  rw [show a.length + (0 + 1 + 1) = a.length + 2 from rfl, ← List.drop_drop, List.drop_left]
  rfl
theorem linesOf_consM (k : Nat) (s : ByteArray) (i : Nat) (a r : List UInt8) (hd : s.data.toList.drop i = a ++ 13 :: 10 :: r) (h : ∀ c ∈ a, c ≠ 13) :
    linesOf (k + 1) s i = (i, ⟨a.toArray⟩) :: (if a.isEmpty = true then [] else linesOf k s (i + a.length + 2)) := by
  rw [linesOf_succ, hd, cut_crlfM a r h, if_pos rfl]
def u8L (l : List Int) : List UInt8 := l.map fun n => UInt8.ofNat n.toNat
theorem fields_lines (s : ByteArray) : ∀ (ls : List (List Int)) (i k : Nat), (∀ l ∈ ls, l ≠ [] ∧ ∀ c ∈ l, (0 ≤ c ∧ c ≤ 255) ∧ c ≠ 13) → ls.length < k → s.data.toList.drop i = u8L (ls.flatMap (· ++ [13, 10]) ++ [13, 10]) → fieldsOf (linesOf k s i) = ls.map pfM
  | [], i, k, _, hk, hd => by
    obtain ⟨k, rfl⟩ : ∃ m, k = m + 1 := ⟨k - 1, by omega⟩
    rw [linesOf_consM k s i [] [] (by rw [hd]; rfl) (by simp)]
    rfl
  | l :: ls, i, k, hl, hk, hd => by
    simp only [List.length_cons] at hk
    obtain ⟨k, rfl⟩ : ∃ m, k = m + 1 := ⟨k - 1, by omega⟩
    obtain ⟨h0, hc⟩ := hl l List.mem_cons_self
    have hd2 : s.data.toList.drop i = u8L l ++ 13 :: 10 :: u8L (ls.flatMap (· ++ [13, 10]) ++ [13, 10]) := by
      rw [hd]
      unfold u8L
      simp
    have hne : (u8L l).isEmpty = false := by
      cases l with
      | nil => exact absurd rfl h0
      | cons a l => rfl
    have hlen : (u8L l).length = l.length := List.length_map ..
    rw [linesOf_consM k s i (u8L l) _ hd2 (fun c hcm => by
      obtain ⟨x, hx, rfl⟩ := List.mem_map.1 hcm
      exact u8_ne (hc x hx).1 (d := 13) (by omega) (hc x hx).2), hne, if_neg (by simp), fieldsOf]
    have hsz : ¬ (⟨(u8L l).toArray⟩ : ByteArray).size = 0 := by
      show ¬ (u8L l).length = 0
      rw [hlen]
      exact fun e => h0 (List.length_eq_zero_iff.1 e)
    rw [if_neg hsz, fields_lines s ls (i + (u8L l).length + 2) k (fun x hx => hl x (List.mem_cons_of_mem _ hx)) (by omega) (by
      rw [show i + (u8L l).length + 2 = i + ((u8L l).length + 2) by omega, ← List.drop_drop, hd2, ← List.drop_drop, List.drop_left]
      rfl)]
    rfl
theorem sectM_run (e0 e1 e2 : Nat) (s : List Int) (hb : ByteL s) (a : Nat) (ha : a ≤ s.length) (X : MSt Fld) (hp : X.place = 6) (hl : X.lines = 0) (hz : X.size = 0) (ht : X.text = []) (hf : X.fields = []) :
    match secM s e1 e2 a with
    | .error (a1, er) => er ≠ 0 ∧ ∃ st', mrun (envM e0 e1 e2) X (s.drop a) a = (st', a1, er) ∧ st'.data = X.data
    | .ok (l, a1) => ∃ st', mrun (envM e0 e1 e2) X (s.drop a) a = (st', a1, 0) ∧ st'.data = X.data ∧ st'.fields = l ∧ st'.place = 11 := by
  have hbr : ByteL (s.drop a) := fun x hx => hb x (List.mem_of_mem_drop hx)
  have hsc := scanP_I hbr ((strOfNums (s.drop a)).size + 1) 0 0 (Nat.zero_le _) (by rw [Go.strOfNums_size]; omega)
  rw [List.drop_zero] at hsc
  obtain ⟨r, hr⟩ : ∃ r, s.drop a = r := ⟨_, rfl⟩
  rw [hr] at hbr hsc ⊢
  have hshift : ∀ (l : List Int) (i j : Nat) (st : Int), scanI nxt (i + j) l st = ((scanI nxt i l st).1 + j, (scanI nxt i l st).2) := by
    intro l
    induction l with
    | nil => intro i j st; rfl
    | cons c l ih =>
      intro i j st
      rw [scanI, scanI]
      split
      · split
        · show (i + j + 1, (0 : Int)) = (i + 1 + j, 0)
          rw [show i + j + 1 = i + 1 + j by omega]
        · rw [show i + j + 1 = (i + 1) + j by omega]
          exact ih _ _ _
      · rfl
  obtain ⟨q, hq⟩ : ∃ q, scanI nxt 0 r 0 = q := ⟨_, rfl⟩
  obtain ⟨n, e⟩ := q
  rw [hq] at hsc
  have hge := scanI_ge (nx := nxt) r 0 0
  rw [hq] at hge
  dsimp only at hge
  have hsa : scanI nxt a r 0 = (n + a, e) := by
    have := hshift r 0 a 0
    rw [Nat.zero_add, hq] at this
    exact this
  obtain ⟨i1, i2, i3⟩ := sect_run (nextM e0 e1 e2) (r.length + 1) r a X (Nat.lt_succ_self _) hbr hp (by rw [hz]; exact Nat.zero_le _) ht (n + a) e hsa
  rw [show n + a - a = n by omega, hl, hz, beyM_L _ _ _ _ _ _ (by rw [List.length_take]; omega)] at i1 i2 i3
  have hR : (scanR (strOfNums r)).2.1 = (n : Int) ∧ (scanR (strOfNums r)).2.2 = e ∧ (e = 0 → (scanR (strOfNums r)).1 = fieldsOf (linesOf (n + 1) ((strOfNums r).extract 0 n) 0)) := by
    by_cases he : e = 0
    · subst he
      rw [scanR_good hsc (by rw [Go.strOfNums_size]; omega)]
      exact ⟨rfl, rfl, fun _ => rfl⟩
    · rw [scanR_bad hsc he]
      exact ⟨rfl, rfl, fun h => absurd h he⟩
  unfold secM secQ
  rw [hr, hR.1, hR.2.1, Int.toNat_natCast]
  obtain ⟨bv, hbv⟩ : ∃ bv, beyL e1 e2 (linesB (r.take n)) 0 0 = bv := ⟨_, rfl⟩
  have hE1 : (envM e0 e1 e2).e1 = e1 := rfl
  have hE2 : (envM e0 e1 e2).e2 = e2 := rfl
  rw [hE1, hE2, hbv] at i1 i2 i3
  rw [hbv]
  by_cases hb0 : 0 ≤ bv
  · rw [if_pos hb0]
    obtain ⟨_, st', h1, h2⟩ := i1 hb0
    exact ⟨by decide, st', by rw [h1, Nat.sub_zero], h2⟩
  · rw [if_neg hb0]
    by_cases he : e = 0
    · rw [if_pos he]
      obtain ⟨ls, st', j1, j2, j3, j4, j5, j6⟩ := i3 (by omega) he
      refine ⟨st', by rw [j3, Nat.add_comm], j4, ?_, j6⟩
      rw [j5, hf, List.nil_append, hR.2.2 he]
      refine (fields_lines _ ls 0 (n + 1) (fun l hl => ⟨(j2 l hl).1, fun c hc => ⟨?_, ((j2 l hl).2 c hc).1⟩⟩) ?_ ?_).symm
      · refine hbr c (List.mem_of_mem_take (i := n) ?_)
        rw [j1]
        exact List.mem_append_left _ (List.mem_flatMap.2 ⟨l, hl, List.mem_append_left _ hc⟩)
      · have h1 := congrArg List.length j1
        have h2 : ls.length ≤ (ls.flatMap (· ++ [13, 10])).length := by
          clear j1 j2 j5 h1
          induction ls with
          | nil => simp
          | cons l ls ih => simp only [List.flatMap_cons, List.length_append, List.length_cons, List.length_nil]; omega
        rw [List.length_take, List.length_append] at h1
        simp only [List.length_cons, List.length_nil] at h1
        omega
      · rw [List.drop_zero, extract_to, strOfNums_data]
        unfold u8L
        rw [← List.map_take, j1]
    · rw [if_neg he]
      obtain ⟨st', h1, h2⟩ := i2 (by omega) he
      exact ⟨he, st', by rw [h1, Nat.add_comm], h2⟩
theorem sizeL_er {s : List Int} : ∀ (f a n g : Nat) {a1 : Nat} {er : Int}, sizeL f s a n g = .error (a1, er) → er ≠ 0
  | 0, a, n, g, a1, er, h => by cases h; decide
  | f + 1, a, n, g, a1, er, h => by
    unfold sizeL at h
    split at h
    · split at h
      · split at h
        · cases h
        · cases h; decide
      · split at h
        · exact sizeL_er f _ _ _ h
        · cases h; decide
    · cases h; decide
theorem extL_er {s : List Int} {e0 : Int} : ∀ (f a n : Nat) {a1 : Nat} {er : Int}, extL f s e0 a n = .error (a1, er) → er ≠ 0
  | 0, a, n, a1, er, h => by cases h
  | f + 1, a, n, a1, er, h => by
    unfold extL at h
    split at h
    · split at h
      · split at h
        · exact extL_er f _ _ h
        · cases h; decide
      · cases h
    · cases h; decide
theorem extM_er {s : List Int} {e0 : Int} {a a1 : Nat} {er : Int} (h : extM s e0 a = .error (a1, er)) : er ≠ 0 := by
  unfold extM at h
  split at h
  · split at h
    · exact extL_er _ _ _ h
    · cases h
  · cases h; decide
theorem byteM_er {s : List Int} {c : Int} {a a1 : Nat} {er : Int} (h : byteM s c a = .error (a1, er)) : er ≠ 0 := by
  unfold byteM at h
  split at h
  · split at h
    · cases h
    · cases h; decide
  · cases h; decide
theorem endM_er {s : List Int} {a a1 : Nat} {er : Int} (h : endM s a = .error (a1, er)) : er ≠ 0 := by
  unfold endM at h
  split at h
  · exact byteM_er h
  · rename_i h1
    cases h
    exact byteM_er h1
theorem chunkM_er {s : List Int} {e0 : Int} {a a1 : Nat} {er : Int} (h : (chunkM s e0 a).1 = .error (a1, er)) : er ≠ 0 := by
  unfold chunkM at h
  split at h
  · rename_i h1
    cases h
    exact sizeL_er _ _ _ _ h1
  split at h
  · rename_i h1
    cases h
    exact extM_er h1
  split at h
  · rename_i h1
    cases h
    exact endM_er h1
  split at h
  · cases h
  split at h
  · unfold tailM at h
    split at h
    · rename_i h1
      cases h
      exact endM_er h1
    · cases h
  · cases h; decide
theorem chunksM_er {s : List Int} {e0 : Int} : ∀ (f a : Nat) (D : List Int) {a1 : Nat} {er : Int}, (chunksM f s e0 a D).1 = .error (a1, er) → er ≠ 0
  | 0, a, D, a1, er, h => by cases h; decide
  | f + 1, a, D, a1, er, h => by
    rw [chunksM] at h
    split at h
    · rename_i h1
      cases h
      exact chunkM_er (congrArg Prod.fst h1)
    · exact chunksM_er f _ _ h
    · cases h
theorem body_run (e0 e1 e2 : Nat) (s : List Int) (hb : ByteL s) :
    match bodyM s e0 e1 e2 with
    | (.error (a, er), D) => er ≠ 0 ∧ ∃ st', mrun (envM e0 e1 e2) minit s 0 = (st', a, er) ∧ st'.data = D
    | (.ok (l, a), D) => ∃ st', mrun (envM e0 e1 e2) minit s 0 = (st', a, 0) ∧ st'.data = D ∧ st'.fields = l ∧ st'.place = 11 := by
  have h := chunks_run (goodM e0 e1 e2) s (s.length + 1) 0 minit (by omega) (Nat.zero_le _) rfl rfl rfl (fun q x a1 hq hc => (chunkM_gt hb hq hc).1)
  rw [List.drop_zero] at h
  have hE0 : (envM e0 e1 e2).e0 = e0 := rfl
  have hD0 : (minit : MSt Fld).data = [] := rfl
  rw [hE0, hD0] at h
  unfold bodyM scannedM
  have her := fun a1 er => chunksM_er (s := s) (e0 := (e0 : Int)) (s.length + 1) 0 [] (a1 := a1) (er := er)
  generalize chunksM (s.length + 1) s (e0 : Int) 0 [] = q at *
  obtain ⟨m, D⟩ := q
  rcases m with ⟨a, er⟩ | ⟨u, a⟩
  · obtain ⟨st', h1, h2⟩ := h
    exact ⟨her a er rfl, st', h1, h2⟩
  · obtain ⟨ha, k, hr⟩ := h
    dsimp only
    have h2 := sectM_run e0 e1 e2 s hb a ha { (minit : MSt Fld) with place := 6, count := k, data := D } rfl rfl rfl rfl rfl
    cases hm : secM s e1 e2 a with
    | error x =>
      obtain ⟨a1, er⟩ := x
      rw [hm] at h2
      obtain ⟨h0, st', h3, h4⟩ := h2
      exact ⟨h0, st', hr.trans h3, h4⟩
    | ok x =>
      obtain ⟨l, a1⟩ := x
      rw [hm] at h2
      obtain ⟨st', h3, h4, h5, h6⟩ := h2
      exact ⟨st', hr.trans h3, h4, h5, h6⟩
end Go.Proofs.YtmmbpbgcobmifaaGreatDoorH
end
section
namespace Go.Proofs.YtmmbpbgcobmifaaGreatDoor.Pr
end Go.Proofs.YtmmbpbgcobmifaaGreatDoor.Pr
namespace Go.Proofs.YtmmbpbgcobmifaaGreatDoorH
open Go.RowKit Go.Proofs.YtmmbpbgcobmifaaGreatDoorW.PrintWords Go.Proofs.YtmmbpbgcobmifaaGreatDoorW.PrintLast Go.Proofs.YtmmbpbgcobmifaaGreatDoorW.PrintMore Go.Proofs.YtmmbpbgcobmifaaGreatDoor.Pr Go.Proofs.YtmmbpbgcobmifaaGreatDoorM
def toldB (r : MSt Fld × Nat × Int) : List Int × List Fld × Int × Int × Int := if r.2.2 = 0 then (r.1.data, r.1.fields, (r.2.1 : Int), (r.2.1 : Int), 0) else ([], [], 0, (r.2.1 : Int), r.2.2)
def runB (e0 e1 e2 : Nat) (s : List Int) : MSt Fld × Nat × Int := mrun (envM e0 e1 e2) minit s 0
theorem scanT_run (e0 e1 e2 : Nat) (s : List Int) (hb : ByteL s) : scanT s e0 e1 e2 = toldB (runB e0 e1 e2 s) ∧ (bodyM s e0 e1 e2).2 = (runB e0 e1 e2 s).1.data := by
  have h := body_run e0 e1 e2 s hb
  unfold scanT runB
  generalize bodyM s e0 e1 e2 = q at *
  obtain ⟨m, D⟩ := q
  rcases m with ⟨a, er⟩ | ⟨l, a⟩
  · obtain ⟨h0, st', h1, h2⟩ := h
    rw [h1]
    unfold toldB
    rw [if_neg h0]
    exact ⟨rfl, h2.symm⟩
  · obtain ⟨st', h1, h2, h3, h4⟩ := h
    rw [h1]
    unfold toldB
    rw [if_pos rfl]
    dsimp only
    rw [h2, h3]
    exact ⟨rfl, rfl⟩
theorem toldB_ok {r : MSt Fld × Nat × Int} (h : r.2.2 = 0) : toldB r = (r.1.data, r.1.fields, (r.2.1 : Int), (r.2.1 : Int), 0) := by unfold toldB; rw [if_pos h]
theorem scanF_eq (e0 e1 e2 : Nat) (s : List Int) (hb : ByteL s) (hl : s.length ≤ 1073741824) (h0 : e0 ≤ 65536) (h1 : e1 ≤ 65536) (h2 : e2 ≤ 65536) : body_Scan.f s (e0 : Int) (e1 : Int) (e2 : Int) = some (toldB (runB e0 e1 e2 s)) := by
  unfold body_Scan.f
  rw [if_pos ⟨hl, byteB_iff.2 hb⟩, if_pos (by unfold rightL; simp only [Bool.and_eq_true, decide_eq_true_eq]; omega)]
  simp only [Int.toNat_natCast]
  rw [(scanT_run e0 e1 e2 s hb).1]
end Go.Proofs.YtmmbpbgcobmifaaGreatDoorH
end
section
namespace Go.Proofs.YtmmbpbgcobmifaaGreatDoor.Pr
open Go.RowKit Go.Proofs.YtmmbpbgcobmifaaGreatDoorH Go.Proofs.YtmmbpbgcobmifaaGreatDoorW.PrintWords Go.Proofs.YtmmbpbgcobmifaaGreatDoorW.PrintLast Go.Proofs.YtmmbpbgcobmifaaGreatDoorW.PrintMore
attribute [local go_sem] max2_int min2_int max_two min_two max_three min_three max_four min_four   -- for this text's walks alone
set_option linter.unusedVariables false
set_option linter.unusedSimpArgs false
def catchpitref03_Same.l0 : Nat → List Int → List Int → Int → Option (Bool)
  | 0, _, _, _ => none
  | k + 1, x0, x1, x5 => if x5 < (x0.length : Int) then (if 0 ≤ x5 then (if x5 < (x1.length : Int) then (if (rd x0 x5) = (rd x1 x5) then (catchpitref03_Same.l0 k x0 x1 (wrap64 (x5 + 1))) else (some false)) else (none)) else (none)) else (some true)
def catchpitref03_Same.f (k : Nat) (l0 : List Int) (l1 : List Int) : Option (Bool) := if (l0.length : Int) = (l1.length : Int) then (catchpitref03_Same.l0 k l0 l1 0) else (some false)
theorem catchpitref03_Same.mono_l : ∀ k, (∀ y0 y1 y2, LeO (catchpitref03_Same.l0 k y0 y1 y2) (catchpitref03_Same.l0 (k + 1) y0 y1 y2))
  | 0 => fun _ _ _ r h => by simp [catchpitref03_Same.l0] at h
  | k + 1 => by
    have ih0 := catchpitref03_Same.mono_l k
    · intro y0 y1 y2
      unfold catchpitref03_Same.l0
      repeat' first
      | (with_reducible exact ih0 _ _ _)
      | (with_reducible exact LeO.refl _)
      | (with_reducible exact LeO.none _)
      | (with_reducible refine LeO.ite ?_ ?_)
      | (with_reducible refine LeO.bind ?_ (fun _ => ?_))
      | exact ih0 _ _ _
      | exact LeO.none _
      | refine LeO.ite ?_ ?_
      | refine LeO.bind ?_ (fun _ => ?_)
theorem catchpitref03_Same.mono : ∀ a0 a1 k, LeO (catchpitref03_Same.f k a0 a1) (catchpitref03_Same.f (k + 1) a0 a1) := by
  intro a0 a1 k
  have ih0 := catchpitref03_Same.mono_l k
  unfold catchpitref03_Same.f
  repeat' first
      | (with_reducible exact ih0 _ _ _)
      | (with_reducible exact LeO.refl _)
      | (with_reducible exact LeO.none _)
      | (with_reducible refine LeO.ite ?_ ?_)
      | (with_reducible refine LeO.bind ?_ (fun _ => ?_))
      | exact ih0 _ _ _
      | exact LeO.none _
      | refine LeO.ite ?_ ?_
      | refine LeO.bind ?_ (fun _ => ?_)
set_option maxHeartbeats 8000000 in
set_option maxRecDepth 100000 in
theorem catchpitref03_Same.calls (k : Nat) (A0 : Option Addr) (c0 : Nat) (l0 : List Int) (A1 : Option Addr) (c1 : Nat) (l1 : List Int) (r : Bool) (w : World) (hr0 : Kd.C (Kd.int .u8) w A0 l0.length l0) (hc0 : l0.length ≤ c0) (hr1 : Kd.C (Kd.int .u8) w A1 l1.length l1) (hc1 : l1.length ≤ c1) (hG : TabOk w) (h : catchpitref03_Same.f k l0 l1 = some r) :
    Calls Tryz.prog 13 #[.slice A0 l0.length c0, .slice A1 l1.length c1] w fun e w' => e = .returned (.bool r) ∧ Drawn0 w w' := by
  have HR0 := Aside0.mk hr0
  have HC0 := Aside0.mk hc0
  clear hr0 hc0
  have HR1 := Aside0.mk hr1
  have HC1 := Aside0.mk hc1
  clear hr1 hc1
  have H : (if (l0.length : Int) = (l1.length : Int) then (catchpitref03_Same.l0 k l0 l1 0) else (some false)) = some r := h
  clear h
  by_cases c3 : (l0.length : Int) = (l1.length : Int)
  · rw [if_pos c3] at H
    have c3b0 : ((l0.length : Int) == (l1.length : Int)) = true := beq_iff_eq.mpr c3
    have c3b1 : ((l0.length : Int) != (l1.length : Int)) = false := bne_eq_false_iff_eq.mpr c3
    have c3b2 : (l0.length == l1.length) = true := by first | simpa using c3 | (simp at c3 ⊢; omega)
    clear c3
    have H' := Aside0.mk H
    clear H
    go_enter Tryz.func13, Tryz.ntmps13
    go_wp2
    repeat (go_quiet (fail); try go_wp2)
    go_loopg [5] k (fun kq v5 w' => ∃ (x5_1 : Int), v5 = .int .i64 x5_1 ∧ Aside0 (catchpitref03_Same.l0 kq l0 l1 x5_1 = some r) ∧ Aside0 (kq ≤ k) ∧ Drawn0 w w')
    case atStart => exact ⟨(0), (by first | rfl | (simp; done) | (simp [*]; done)), H', ⟨Nat.le_refl _⟩, by repeat (first | exact Drawn0.refl _ | apply Drawn0.step)⟩
    case round =>
      clear H'
      try clear c1
      try clear p2
      try clear c3
      try clear c3b0
      try clear c3b1
      try clear c3b2
      obtain ⟨x5_1, rfl, HA, HK1, ⟨m1, rfl⟩⟩ := hrel
      cases gk with
      | zero => exact absurd HA.out (by simp [catchpitref03_Same.l0])
      | succ k1 =>
        have H := HA.out
        clear HA
        simp only [catchpitref03_Same.l0] at H
        by_cases c4 : x5_1 < (l0.length : Int)
        · rw [if_pos c4] at H
          have c4b0 : decide (x5_1 < (l0.length : Int)) = true := decide_eq_true c4
          clear c4
          by_cases c5 : 0 ≤ x5_1
          · rw [if_pos c5] at H
            have c5b0 : decide (0 ≤ x5_1) = true := decide_eq_true c5
            clear c5
            by_cases c6 : x5_1 < (l1.length : Int)
            · rw [if_pos c6] at H
              have c6b0 : decide (x5_1 < (l1.length : Int)) = true := decide_eq_true c6
              clear c6
              by_cases c7 : (rd l0 x5_1) = (rd l1 x5_1)
              · rw [if_pos c7] at H
                have c7b0 : ((rd l0 x5_1) == (rd l1 x5_1)) = true := beq_iff_eq.mpr c7
                have c7b1 : ((rd l0 x5_1) != (rd l1 x5_1)) = false := bne_eq_false_iff_eq.mpr c7
                clear c7
                have H' := Aside0.mk H
                clear H
                have p146 : 0 ≤ (x5_1 : Int) := of_decide_eq_true (by first | (with_reducible assumption) | assumption)
                have q146 : x5_1 < (l0.length : Int) := of_decide_eq_true (by first | (with_reducible assumption) | assumption)
                obtain ⟨ad146, e146, hx146_0⟩ := Kd.at_int HR0.out x5_1 p146 q146
                cases e146
                replace p146 := eq_true p146
                replace q146 := eq_true q146
                have p147 : 0 ≤ (x5_1 : Int) := of_decide_eq_true (by first | (with_reducible assumption) | assumption)
                have q147 : x5_1 < (l1.length : Int) := of_decide_eq_true (by first | (with_reducible assumption) | assumption)
                obtain ⟨ad147, e147, hx147_0⟩ := Kd.at_int HR1.out x5_1 p147 q147
                cases e147
                replace p147 := eq_true p147
                replace q147 := eq_true q147
                go_wp2
                repeat (go_quiet (fail); try go_wp2)
                go_roundg k1
                case measure => have := HK1.out; omega
                case rel => exact ⟨(wrap64 (x5_1 + 1)), (by first | rfl | (simp; done) | (simp [*]; done)), H', ⟨by have := HK1.out; omega⟩, by repeat (first | exact Drawn0.refl _ | apply Drawn0.step)⟩
              · rw [if_neg c7] at H
                have c7b0 : ((rd l0 x5_1) == (rd l1 x5_1)) = false := beq_eq_false_iff_ne.mpr c7
                have c7b1 : ((rd l0 x5_1) != (rd l1 x5_1)) = true := bne_iff_ne.mpr c7
                obtain rfl := Option.some.inj H
                have p146 : 0 ≤ (x5_1 : Int) := of_decide_eq_true (by first | (with_reducible assumption) | assumption)
                have q146 : x5_1 < (l0.length : Int) := of_decide_eq_true (by first | (with_reducible assumption) | assumption)
                obtain ⟨ad146, e146, hx146_0⟩ := Kd.at_int HR0.out x5_1 p146 q146
                cases e146
                replace p146 := eq_true p146
                replace q146 := eq_true q146
                have p147 : 0 ≤ (x5_1 : Int) := of_decide_eq_true (by first | (with_reducible assumption) | assumption)
                have q147 : x5_1 < (l1.length : Int) := of_decide_eq_true (by first | (with_reducible assumption) | assumption)
                obtain ⟨ad147, e147, hx147_0⟩ := Kd.at_int HR1.out x5_1 p147 q147
                cases e147
                replace p147 := eq_true p147
                replace q147 := eq_true q147
                go_wp2
                repeat (go_quiet (fail); try go_wp2)
                go_ret
                exact ⟨by first | rfl | (simp; done) | (simp [*]; done), by repeat (first | exact Drawn0.refl _ | apply Drawn0.step)⟩
            · rw [if_neg c6] at H
              exact absurd H (by simp)
          · rw [if_neg c5] at H
            exact absurd H (by simp)
        · rw [if_neg c4] at H
          have c4b0 : decide (x5_1 < (l0.length : Int)) = false := decide_eq_false c4
          clear c4
          obtain rfl := Option.some.inj H
          go_wp2
          repeat (go_quiet (fail); try go_wp2)
          go_ret
          exact ⟨by first | rfl | (simp; done) | (simp [*]; done), by repeat (first | exact Drawn0.refl _ | apply Drawn0.step)⟩
  · rw [if_neg c3] at H
    have c3b0 : ((l0.length : Int) == (l1.length : Int)) = false := beq_eq_false_iff_ne.mpr c3
    have c3b1 : ((l0.length : Int) != (l1.length : Int)) = true := bne_iff_ne.mpr c3
    have c3b2 : (l0.length == l1.length) = false := by first | simpa using c3 | (simp at c3 ⊢; omega)
    obtain rfl := Option.some.inj H
    go_enter Tryz.func13, Tryz.ntmps13
    go_wp2
    repeat (go_quiet (fail); try go_wp2)
    go_ret
    exact ⟨by first | rfl | (simp; done) | (simp [*]; done), by repeat (first | exact Drawn0.refl _ | apply Drawn0.step)⟩
end Go.Proofs.YtmmbpbgcobmifaaGreatDoor.Pr
end
section
namespace Go.Proofs.YtmmbpbgcobmifaaGreatDoor.Pr
open Go.RowKit Go.Proofs.YtmmbpbgcobmifaaGreatDoorH Go.Proofs.YtmmbpbgcobmifaaGreatDoorW.PrintWords Go.Proofs.YtmmbpbgcobmifaaGreatDoorW.PrintLast Go.Proofs.YtmmbpbgcobmifaaGreatDoorW.PrintMore
attribute [local go_sem] max2_int min2_int max_two min_two max_three min_three max_four min_four   -- for this text's walks alone
set_option linter.unusedVariables false
set_option linter.unusedSimpArgs false
theorem eqA28 (d : Nat) (w : World) (x0 y0 : ByteArray) (x1 y1 : ByteArray) :
    (Op.equalIn (d + 2) 28 (.agg #[.string x0, .string x1]) (.agg #[.string y0, .string y1])).run Tryz.prog w = .ok (x0.toList == y0.toList && (x1.toList == y1.toList)) w := by
  refine eqA_of Tryz.underlying28 (by kernel_rfl) ?_
  refine eqf_cons (by rfl) (by go_simp; rfl) (by go_simp; rfl) (by go_simp) ?_
  exact eqf_last (by rfl) (by go_simp; rfl) (by go_simp; rfl) (by go_simp)
end Go.Proofs.YtmmbpbgcobmifaaGreatDoor.Pr
end
section
namespace Go.Proofs.YtmmbpbgcobmifaaGreatDoor.Pr
open Go.RowKit Go.Proofs.YtmmbpbgcobmifaaGreatDoorH Go.Proofs.YtmmbpbgcobmifaaGreatDoorW.PrintWords Go.Proofs.YtmmbpbgcobmifaaGreatDoorW.PrintLast Go.Proofs.YtmmbpbgcobmifaaGreatDoorW.PrintMore
attribute [local go_sem] max2_int min2_int max_two min_two max_three min_three max_four min_four   -- for this text's walks alone
set_option linter.unusedVariables false
set_option linter.unusedSimpArgs false
attribute [local go_sem high] eqA28
def catchpitref05_Fields.l0 : Nat → List (S28) → List (S28) → Int → Option (Bool)
  | 0, _, _, _ => none
  | k + 1, x0, x1, x5 => if x5 < (x0.length : Int) then (if 0 ≤ x5 then (if x5 < (x1.length : Int) then (if (!((((rd_T28 x0 x5).f0).toList) == (((rd_T28 x1 x5).f0).toList)) || (!((((rd_T28 x0 x5).f1).toList) == (((rd_T28 x1 x5).f1).toList)))) = true then (some false) else (catchpitref05_Fields.l0 k x0 x1 (wrap64 (x5 + 1)))) else (none)) else (none)) else (some true)
def catchpitref05_Fields.f (k : Nat) (l0 : List (S28)) (l1 : List (S28)) : Option (Bool) := if (l0.length : Int) = (l1.length : Int) then (catchpitref05_Fields.l0 k l0 l1 0) else (some false)
theorem catchpitref05_Fields.mono_l : ∀ k, (∀ y0 y1 y2, LeO (catchpitref05_Fields.l0 k y0 y1 y2) (catchpitref05_Fields.l0 (k + 1) y0 y1 y2))
  | 0 => fun _ _ _ r h => by simp [catchpitref05_Fields.l0] at h
  | k + 1 => by
    have ih0 := catchpitref05_Fields.mono_l k
    · intro y0 y1 y2
      unfold catchpitref05_Fields.l0
      repeat' first
      | (with_reducible exact ih0 _ _ _)
      | (with_reducible exact LeO.refl _)
      | (with_reducible exact LeO.none _)
      | (with_reducible refine LeO.ite ?_ ?_)
      | (with_reducible refine LeO.bind ?_ (fun _ => ?_))
      | exact ih0 _ _ _
      | exact LeO.none _
      | refine LeO.ite ?_ ?_
      | refine LeO.bind ?_ (fun _ => ?_)
theorem catchpitref05_Fields.mono : ∀ a0 a1 k, LeO (catchpitref05_Fields.f k a0 a1) (catchpitref05_Fields.f (k + 1) a0 a1) := by
  intro a0 a1 k
  have ih0 := catchpitref05_Fields.mono_l k
  unfold catchpitref05_Fields.f
  repeat' first
      | (with_reducible exact ih0 _ _ _)
      | (with_reducible exact LeO.refl _)
      | (with_reducible exact LeO.none _)
      | (with_reducible refine LeO.ite ?_ ?_)
      | (with_reducible refine LeO.bind ?_ (fun _ => ?_))
      | exact ih0 _ _ _
      | exact LeO.none _
      | refine LeO.ite ?_ ?_
      | refine LeO.bind ?_ (fun _ => ?_)
set_option maxHeartbeats 8000000 in
set_option maxRecDepth 100000 in
theorem catchpitref05_Fields.calls (k : Nat) (A0 : Option Addr) (c0 : Nat) (l0 : List (S28)) (A1 : Option Addr) (c1 : Nat) (l1 : List (S28)) (r : Bool) (w : World) (hr0 : Kd.C k28 w A0 l0.length l0) (hc0 : l0.length ≤ c0) (hr1 : Kd.C k28 w A1 l1.length l1) (hc1 : l1.length ≤ c1) (hG : TabOk w) (h : catchpitref05_Fields.f k l0 l1 = some r) :
    Calls Tryz.prog 14 #[.slice A0 l0.length c0, .slice A1 l1.length c1] w fun e w' => e = .returned (.bool r) ∧ Drawn0 w w' := by
  have hu28 := Tryz.underlying28
  have HR0 := Aside0.mk hr0
  have HC0 := Aside0.mk hc0
  clear hr0 hc0
  have HR1 := Aside0.mk hr1
  have HC1 := Aside0.mk hc1
  clear hr1 hc1
  have H : (if (l0.length : Int) = (l1.length : Int) then (catchpitref05_Fields.l0 k l0 l1 0) else (some false)) = some r := h
  clear h
  by_cases c3 : (l0.length : Int) = (l1.length : Int)
  · rw [if_pos c3] at H
    have c3b0 : ((l0.length : Int) == (l1.length : Int)) = true := beq_iff_eq.mpr c3
    have c3b1 : ((l0.length : Int) != (l1.length : Int)) = false := bne_eq_false_iff_eq.mpr c3
    have c3b2 : (l0.length == l1.length) = true := by first | simpa using c3 | (simp at c3 ⊢; omega)
    clear c3
    have H' := Aside0.mk H
    clear H
    go_enter Tryz.func14, Tryz.ntmps14
    go_wp2
    repeat (go_quiet (fail); try go_wp2)
    go_loopg [5] k (fun kq v5 w' => ∃ (x5_1 : Int), v5 = .int .i64 x5_1 ∧ Aside0 (catchpitref05_Fields.l0 kq l0 l1 x5_1 = some r) ∧ Aside0 (kq ≤ k) ∧ Drawn0 w w')
    case atStart => exact ⟨(0), (by first | rfl | (simp; done) | (simp [*]; done)), H', ⟨Nat.le_refl _⟩, by repeat (first | exact Drawn0.refl _ | apply Drawn0.step)⟩
    case round =>
      clear H'
      try clear c1
      try clear p2
      try clear c3
      try clear c3b0
      try clear c3b1
      try clear c3b2
      obtain ⟨x5_1, rfl, HA, HK1, ⟨m1, rfl⟩⟩ := hrel
      cases gk with
      | zero => exact absurd HA.out (by simp [catchpitref05_Fields.l0])
      | succ k1 =>
        have H := HA.out
        clear HA
        simp only [catchpitref05_Fields.l0] at H
        by_cases c4 : x5_1 < (l0.length : Int)
        · rw [if_pos c4] at H
          have c4b0 : decide (x5_1 < (l0.length : Int)) = true := decide_eq_true c4
          clear c4
          by_cases c5 : 0 ≤ x5_1
          · rw [if_pos c5] at H
            have c5b0 : decide (0 ≤ x5_1) = true := decide_eq_true c5
            clear c5
            by_cases c6 : x5_1 < (l1.length : Int)
            · rw [if_pos c6] at H
              have c6b0 : decide (x5_1 < (l1.length : Int)) = true := decide_eq_true c6
              clear c6
              by_cases c7 : (!((((rd_T28 l0 x5_1).f0).toList) == (((rd_T28 l1 x5_1).f0).toList)) || (!((((rd_T28 l0 x5_1).f1).toList) == (((rd_T28 l1 x5_1).f1).toList)))) = true
              · rw [if_pos c7] at H
                have c7b0 : (!((((rd_T28 l0 x5_1).f0).toList) == (((rd_T28 l1 x5_1).f0).toList)) || (!((((rd_T28 l0 x5_1).f1).toList) == (((rd_T28 l1 x5_1).f1).toList)))) = true := c7
                clear c7
                obtain rfl := Option.some.inj H
                have p148 : 0 ≤ (x5_1 : Int) := of_decide_eq_true (by first | (with_reducible assumption) | assumption)
                have q148 : x5_1 < (l0.length : Int) := of_decide_eq_true (by first | (with_reducible assumption) | assumption)
                obtain ⟨ad148, e148, hx148_0, hx148_1⟩ := at_T28 HR0.out x5_1 p148 q148
                cases e148
                replace p148 := eq_true p148
                replace q148 := eq_true q148
                have p149 : 0 ≤ (x5_1 : Int) := of_decide_eq_true (by first | (with_reducible assumption) | assumption)
                have q149 : x5_1 < (l1.length : Int) := of_decide_eq_true (by first | (with_reducible assumption) | assumption)
                obtain ⟨ad149, e149, hx149_0, hx149_1⟩ := at_T28 HR1.out x5_1 p149 q149
                cases e149
                replace p149 := eq_true p149
                replace q149 := eq_true q149
                go_wp2
                repeat (go_quiet (fail); try go_wp2)
                go_ret
                exact ⟨by first | rfl | (simp; done) | (simp [*]; done), by repeat (first | exact Drawn0.refl _ | apply Drawn0.step)⟩
              · rw [if_neg c7] at H
                have c7b0 : (!((((rd_T28 l0 x5_1).f0).toList) == (((rd_T28 l1 x5_1).f0).toList)) || (!((((rd_T28 l0 x5_1).f1).toList) == (((rd_T28 l1 x5_1).f1).toList)))) = false := by simpa using c7
                clear c7
                have H' := Aside0.mk H
                clear H
                have p148 : 0 ≤ (x5_1 : Int) := of_decide_eq_true (by first | (with_reducible assumption) | assumption)
                have q148 : x5_1 < (l0.length : Int) := of_decide_eq_true (by first | (with_reducible assumption) | assumption)
                obtain ⟨ad148, e148, hx148_0, hx148_1⟩ := at_T28 HR0.out x5_1 p148 q148
                cases e148
                replace p148 := eq_true p148
                replace q148 := eq_true q148
                have p149 : 0 ≤ (x5_1 : Int) := of_decide_eq_true (by first | (with_reducible assumption) | assumption)
                have q149 : x5_1 < (l1.length : Int) := of_decide_eq_true (by first | (with_reducible assumption) | assumption)
                obtain ⟨ad149, e149, hx149_0, hx149_1⟩ := at_T28 HR1.out x5_1 p149 q149
                cases e149
                replace p149 := eq_true p149
                replace q149 := eq_true q149
                go_wp2
                repeat (go_quiet (fail); try go_wp2)
                go_roundg k1
                case measure => have := HK1.out; omega
                case rel => exact ⟨(wrap64 (x5_1 + 1)), (by first | rfl | (simp; done) | (simp [*]; done)), H', ⟨by have := HK1.out; omega⟩, by repeat (first | exact Drawn0.refl _ | apply Drawn0.step)⟩
            · rw [if_neg c6] at H
              exact absurd H (by simp)
          · rw [if_neg c5] at H
            exact absurd H (by simp)
        · rw [if_neg c4] at H
          have c4b0 : decide (x5_1 < (l0.length : Int)) = false := decide_eq_false c4
          clear c4
          obtain rfl := Option.some.inj H
          go_wp2
          repeat (go_quiet (fail); try go_wp2)
          go_ret
          exact ⟨by first | rfl | (simp; done) | (simp [*]; done), by repeat (first | exact Drawn0.refl _ | apply Drawn0.step)⟩
  · rw [if_neg c3] at H
    have c3b0 : ((l0.length : Int) == (l1.length : Int)) = false := beq_eq_false_iff_ne.mpr c3
    have c3b1 : ((l0.length : Int) != (l1.length : Int)) = true := bne_iff_ne.mpr c3
    have c3b2 : (l0.length == l1.length) = false := by first | simpa using c3 | (simp at c3 ⊢; omega)
    obtain rfl := Option.some.inj H
    go_enter Tryz.func14, Tryz.ntmps14
    go_wp2
    repeat (go_quiet (fail); try go_wp2)
    go_ret
    exact ⟨by first | rfl | (simp; done) | (simp [*]; done), by repeat (first | exact Drawn0.refl _ | apply Drawn0.step)⟩
end Go.Proofs.YtmmbpbgcobmifaaGreatDoor.Pr
end
section
namespace Go.Proofs.YtmmbpbgcobmifaaGreatDoor.Pr
end Go.Proofs.YtmmbpbgcobmifaaGreatDoor.Pr
namespace Go.Proofs.YtmmbpbgcobmifaaGreatDoorH
open Go.RowKit Go.Proofs.YtmmbpbgcobmifaaGreatDoorW.PrintWords Go.Proofs.YtmmbpbgcobmifaaGreatDoorW.PrintLast Go.Proofs.YtmmbpbgcobmifaaGreatDoorW.PrintMore Go.Proofs.YtmmbpbgcobmifaaGreatDoor.Pr Go.Proofs.YtmmbpbgcobmifaaGreatDoorM
theorem rd_sameM (l : List Int) (i : Nat) : rd l (i : Int) = l.getD i 0 := by
  unfold rd
  rw [Int.toNat_natCast]
theorem SameM_l0 (l0 l1 : List Int) (he : l0.length = l1.length) (hl : l0.length ≤ 1000000) : ∀ (d i k : Nat), l0.length - i = d → i ≤ l0.length → d < k → catchpitref03_Same.l0 k l0 l1 (i : Int) = some (decide (l0.drop i = l1.drop i))
  | 0, i, k, h1, h2, h3 => by
    obtain ⟨k, rfl⟩ : ∃ m, k = m + 1 := ⟨k - 1, by omega⟩
    rw [catchpitref03_Same.l0, if_neg (by omega), List.drop_eq_nil_of_le (by omega), List.drop_eq_nil_of_le (by omega)]
    rfl
  | d + 1, i, k, h1, h2, h3 => by
    obtain ⟨k, rfl⟩ : ∃ m, k = m + 1 := ⟨k - 1, by omega⟩
    have hw : wrap64 ((i : Int) + 1) = ((i + 1 : Nat) : Int) := by unfold wrap64; omega
    have e0 : l0.drop i = l0.getD i 0 :: l0.drop (i + 1) := by
      rw [List.getD_eq_getElem?_getD, List.getElem?_eq_getElem (by omega)]
      exact List.drop_eq_getElem_cons (by omega)
    have e1 : l1.drop i = l1.getD i 0 :: l1.drop (i + 1) := by
      rw [List.getD_eq_getElem?_getD, List.getElem?_eq_getElem (by omega)]
      exact List.drop_eq_getElem_cons (by omega)
    rw [catchpitref03_Same.l0, if_pos (by omega), if_pos (by omega), if_pos (by omega), rd_sameM, rd_sameM, hw, e0, e1]
    by_cases h : l0.getD i 0 = l1.getD i 0
    · rw [if_pos h, SameM_l0 l0 l1 he hl d (i + 1) k (by omega) (by omega) (by omega), h]
      simp
    · rw [if_neg h, decide_eq_false (fun e => h (List.cons.inj e).1)]
theorem SameM_eq (l0 l1 : List Int) (hl : l0.length ≤ 1000000) (k : Nat) (hk : l0.length < k) : catchpitref03_Same.f k l0 l1 = some (decide (l0 = l1)) := by
  unfold catchpitref03_Same.f
  by_cases he : l0.length = l1.length
  · rw [if_pos (by omega)]
    have := SameM_l0 l0 l1 he hl l0.length 0 k (by omega) (by omega) hk
    rwa [List.drop_zero, List.drop_zero] at this
  · rw [if_neg (by omega), decide_eq_false (fun e => he (by rw [e]))]
theorem FieldsM_l0 (a : List Fld) (hc : a.length ≤ 1000000) : ∀ d i k : Nat, i ≤ a.length → a.length - i = d → d < k → catchpitref05_Fields.l0 k a a (i : Int) = some true := by
  intro d
  induction d with
  | zero =>
    intro i k h1 h2 h3
    obtain ⟨k, rfl⟩ : ∃ m, k = m + 1 := ⟨k - 1, by omega⟩
    rw [catchpitref05_Fields.l0, if_neg (by omega)]
  | succ d ih =>
    intro i k h1 h2 h3
    obtain ⟨k, rfl⟩ : ∃ m, k = m + 1 := ⟨k - 1, by omega⟩
    rw [catchpitref05_Fields.l0, if_pos (by omega), if_pos (by omega), if_pos (by omega), if_neg (by simp), show wrap64 ((i : Int) + 1) = ((i + 1 : Nat) : Int) by unfold wrap64; omega]
    exact ih (i + 1) k (by omega) (by omega) (by omega)
theorem FieldsM_eq (a : List Fld) (hc : a.length ≤ 1000000) (k : Nat) (hk : a.length < k) : catchpitref05_Fields.f k a a = some true := by
  rw [catchpitref05_Fields.f, if_pos rfl]
  exact FieldsM_l0 a hc a.length 0 k (Nat.zero_le _) (by omega) hk
end Go.Proofs.YtmmbpbgcobmifaaGreatDoorH
end
section
namespace Go.Proofs.YtmmbpbgcobmifaaGreatDoorH
open Go.RowKit Go.Proofs.YtmmbpbgcobmifaaGreatDoorW.PrintWords Go.Proofs.YtmmbpbgcobmifaaGreatDoorW.PrintLast Go.Proofs.YtmmbpbgcobmifaaGreatDoorW.PrintMore
def hexD (n : Nat) : Int := if n < 10 then 48 + n else 87 + n
def hexL (n : Nat) : List Int := if _h : n < 16 then [hexD n] else hexL (n / 16) ++ [hexD (n % 16)]
termination_by n
decreasing_by omega
theorem hexL_lt {n : Nat} (h : n < 16) : hexL n = [hexD n] := by rw [hexL, dif_pos h]
theorem hexL_ge {n : Nat} (h : 16 ≤ n) : hexL n = hexL (n / 16) ++ [hexD (n % 16)] := by rw [hexL, dif_neg (by omega)]
theorem hexL_pos (n : Nat) : 1 ≤ (hexL n).length := by
  by_cases h : n < 16
  · rw [hexL_lt h]; exact Nat.le_refl _
  · rw [hexL_ge (by omega), List.length_append, List.length_singleton]; omega
theorem hexL_le : ∀ (k n : Nat), n < 16 ^ (k + 1) → (hexL n).length ≤ k + 1
  | 0, n, h => by
    rw [hexL_lt (by simpa using h)]
    exact Nat.le_refl _
  | k + 1, n, h => by
    by_cases h2 : n < 16
    · rw [hexL_lt h2]
      simp
    · rw [hexL_ge (by omega), List.length_append, List.length_singleton]
      have := hexL_le k (n / 16) (by
        rw [Nat.div_lt_iff_lt_mul (by decide)]
        calc n < 16 ^ (k + 1 + 1) := h
          _ = 16 ^ (k + 1) * 16 := Nat.pow_succ ..)
      omega
theorem hexL_le16 {n : Nat} (h : n < 18446744073709551616) : (hexL n).length ≤ 16 := hexL_le 15 n (by simpa using h)
theorem hexD_ok {n : Nat} (h : n < 16) : 0 ≤ hexD n ∧ hexD n ≤ 255 := by
  unfold hexD
  split <;> omega
end Go.Proofs.YtmmbpbgcobmifaaGreatDoorH
end
section
namespace Go.Proofs.YtmmbpbgcobmifaaGreatDoor.Pr
end Go.Proofs.YtmmbpbgcobmifaaGreatDoor.Pr
namespace Go.Proofs.YtmmbpbgcobmifaaGreatDoorH
open Go.RowKit Go.Proofs.YtmmbpbgcobmifaaGreatDoorW.PrintWords Go.Proofs.YtmmbpbgcobmifaaGreatDoorW.PrintLast Go.Proofs.YtmmbpbgcobmifaaGreatDoorW.PrintMore Go.Proofs.YtmmbpbgcobmifaaGreatDoor.Pr
def hexS (n : Nat) : ByteArray := strOfNums (hexL n)
theorem hexS_size (n : Nat) : (hexS n).size = (hexL n).length := strOfNums_size _
theorem hexL_bytes (n : Nat) : ByteL (hexL n) := by
  induction n using Nat.strongRecOn with
  | ind n ih =>
    by_cases h : n < 16
    · rw [hexL_lt h]
      intro x hx
      rw [List.mem_singleton.1 hx]
      exact hexD_ok h
    · rw [hexL_ge (by omega)]
      intro x hx
      rcases List.mem_append.1 hx with hx | hx
      · exact ih (n / 16) (by omega) x hx
      · rw [List.mem_singleton.1 hx]
        exact hexD_ok (Nat.mod_lt _ (by decide))
theorem strBytes (n : Nat) : ofU8 (hexS n).data.toList = hexL n := ofU8_u8s (hexL_bytes n)
end Go.Proofs.YtmmbpbgcobmifaaGreatDoorH
end
section
namespace Go.Proofs.YtmmbpbgcobmifaaGreatDoor.Pr
open Go.RowKit Go.Proofs.YtmmbpbgcobmifaaGreatDoorH Go.Proofs.YtmmbpbgcobmifaaGreatDoorW.PrintWords Go.Proofs.YtmmbpbgcobmifaaGreatDoorW.PrintLast Go.Proofs.YtmmbpbgcobmifaaGreatDoorW.PrintMore
attribute [local go_sem] max2_int min2_int max_two min_two max_three min_three max_four min_four   -- for this text's walks alone
set_option linter.unusedVariables false
set_option linter.unusedSimpArgs false
def field_Put.f (a0_0 : ByteArray) (a0_1 : ByteArray) : Option (ByteArray × Int) := (field_Right.f a0_0 a0_1).bind fun t289 => (if t289 = true then (if a0_1.toList = ([] : List UInt8) then (if a0_0.size + 1 ≤ 9223372036854775807 then (some (a0_0 ++ (⟨#[58]⟩ : ByteArray), 0)) else (none)) else (if a0_0.size + 2 ≤ 9223372036854775807 then (if (a0_0 ++ (⟨#[58, 32]⟩ : ByteArray)).size + a0_1.size ≤ 9223372036854775807 then (some ((a0_0 ++ (⟨#[58, 32]⟩ : ByteArray)) ++ a0_1, 0)) else (none)) else (none))) else (some ((⟨#[]⟩ : ByteArray), 1)))
set_option maxHeartbeats 8000000 in
set_option maxRecDepth 100000 in
theorem field_Put.calls (a0_0 : ByteArray) (a0_1 : ByteArray) (r1 : ByteArray) (r2 : Int) (w : World) (hG : TabOk w) (h : field_Put.f a0_0 a0_1 = some (r1, r2)) :
    Calls Tryz.prog 152 #[.agg #[.string a0_0, .string a0_1]] w fun e w' => e = .returned (.tuple #[.string r1, .int .i64 r2]) ∧ Below w.heap.size w w' := by
  have hu28 := Tryz.underlying28
  have HB := Aside0.mk (Below.refl w.heap.size w)
  have H : ((field_Right.f a0_0 a0_1).bind fun t289 => (if t289 = true then (if a0_1.toList = ([] : List UInt8) then (if a0_0.size + 1 ≤ 9223372036854775807 then (some (a0_0 ++ (⟨#[58]⟩ : ByteArray), 0)) else (none)) else (if a0_0.size + 2 ≤ 9223372036854775807 then (if (a0_0 ++ (⟨#[58, 32]⟩ : ByteArray)).size + a0_1.size ≤ 9223372036854775807 then (some ((a0_0 ++ (⟨#[58, 32]⟩ : ByteArray)) ++ a0_1, 0)) else (none)) else (none))) else (some ((⟨#[]⟩ : ByteArray), 1)))) = some (r1, r2) := h
  clear h
  replace H := Option.bind_eq_some_iff.mp H
  obtain ⟨t289, A20, H⟩ := H
  replace H : (if t289 = true then (if a0_1.toList = ([] : List UInt8) then (if a0_0.size + 1 ≤ 9223372036854775807 then (some (a0_0 ++ (⟨#[58]⟩ : ByteArray), 0)) else (none)) else (if a0_0.size + 2 ≤ 9223372036854775807 then (if (a0_0 ++ (⟨#[58, 32]⟩ : ByteArray)).size + a0_1.size ≤ 9223372036854775807 then (some ((a0_0 ++ (⟨#[58, 32]⟩ : ByteArray)) ++ a0_1, 0)) else (none)) else (none))) else (some ((⟨#[]⟩ : ByteArray), 1))) = some (r1, r2) := H
  have A2 := Aside0.mk A20
  clear A20
  by_cases c3 : t289 = true
  · subst c3
    have H1 : (if a0_1.toList = ([] : List UInt8) then (if a0_0.size + 1 ≤ 9223372036854775807 then (some (a0_0 ++ (⟨#[58]⟩ : ByteArray), 0)) else (none)) else (if a0_0.size + 2 ≤ 9223372036854775807 then (if (a0_0 ++ (⟨#[58, 32]⟩ : ByteArray)).size + a0_1.size ≤ 9223372036854775807 then (some ((a0_0 ++ (⟨#[58, 32]⟩ : ByteArray)) ++ a0_1, 0)) else (none)) else (none))) = some (r1, r2) := by rw [if_pos rfl] at H; exact H
    clear H
    have H := H1
    clear H1
    by_cases c4 : a0_1.toList = ([] : List UInt8)
    · rw [if_pos c4] at H
      have c4b0 : (a0_1.toList == ([] : List UInt8)) = true := beq_iff_eq.mpr c4
      have c4b1 : (a0_1.toList != ([] : List UInt8)) = false := bne_eq_false_iff_eq.mpr c4
      clear c4
      by_cases c5 : a0_0.size + 1 ≤ 9223372036854775807
      · rw [if_pos c5] at H
        have c5b0 := eq_true c5
        have c5b1 : decide (a0_0.size + 1 ≤ 9223372036854775807) = true := decide_eq_true c5
        try have c5b2 : (9223372036854775807 < a0_0.size + 1) = False := eq_false (Nat.not_lt.2 c5)
        simp only [Option.some.injEq, Prod.mk.injEq] at H
        obtain ⟨rfl, rfl⟩ := H
        go_enter Tryz.func152, Tryz.ntmps152
        go_wp2_with (first | ((with_reducible refine gate_dst (N := 1) rfl ?_); refine box_event ?hg (N := 1) ?hd (cs := #[.string a0_0, .string a0_1]) (t := 28) ?hr ?_; (case hd => rfl); (case hg => rfl); (case hr => first | (go_simp; done) | (go_simp; rfl)); intro gb288 hg w6 hbox hb; have n0_ := Aside0.mk (below_step (by repeat (first | (with_reducible first | exact HB.out | apply below_alloc | apply pw_below_drewN | apply below_drew1) | exact HB.out)) hb); have n1_ := Aside0.mk (hbox); have n2_ := Aside0.mk ((by rw [hg]; exact (below_size (by repeat (first | (with_reducible first | exact HB.out | apply below_alloc | apply pw_below_drewN | apply below_drew1) | exact HB.out))) : w.heap.size ≤ gb288)); have n3_ := Aside0.mk ((by rw [hg]; exact (below_size (by repeat (first | (with_reducible first | exact HB.out | apply below_alloc | apply pw_below_drewN | apply below_drew1) | exact HB.out))) : w.heap.size ≤ gb288)); clear HB; have HB := n0_; have BK288 := n1_; have GW288 := n2_; have GE288 := n3_; clear n0_ n1_ n2_ n3_; clear hb hbox hg; have hcz7_0 : w6.cell? ⟨gb288, 0, none⟩ = some (.string a0_0) := (blk_cell BK288.out 0).trans rfl; have hcz7_1 : w6.cell? ⟨gb288, 1, none⟩ = some (.string a0_1) := (blk_cell BK288.out 1).trans rfl; have hfz7_0 := blk_frozen BK288.out 0; have hfz7_1 := blk_frozen BK288.out 1) | ((with_reducible refine gate_callee (f := 80) rfl ?_); refine goesL_ (some 6) rfl rfl Tryz.func80 (by kernel_rfl) rfl #[.agg #[.string a0_0, .string a0_1]] rfl (by (try simp only [List.map_toArray, List.map_cons, List.map_nil]); first | done | rfl | (simp only [List.length_drop, List.length_take]; rfl)) ?_; (with_reducible refine (field_Right.calls a0_0 a0_1 true _ ?side1 A2.out).mono ?_); (case side1 => first | exact hG | exact TabOk.drewN hG _ | exact TabOk.drewN (TabOk.drewN hG _) _ | exact TabOk.below hG (by repeat (first | (with_reducible first | exact HB.out | apply below_alloc | apply pw_below_drewN | apply below_drew1 | refine below_set ?_ GE288.out) | exact HB.out))); rintro e w8 ⟨rfl, hb⟩; refine ⟨_, rfl, ?_⟩; have n0_ := Aside0.mk (blk_below (g := gb288) (o := .cells #[.string a0_0, .string a0_1] 28 (0, 0)) (by (with_reducible repeat (first | refine blk_drewN ?_ _ | refine blk_drew ?_ | refine blk_alloc ?_ _)); exact BK288.out) hb); have n1_ := Aside0.mk (below_step (by repeat (first | (with_reducible first | exact HB.out | apply below_alloc | apply pw_below_drewN | apply below_drew1 | refine below_set ?_ GE288.out) | exact HB.out)) hb); clear BK288; clear HB; have BK288 := n0_; have HB := n1_; clear n0_ n1_; (try clear hb); (try clear hb2); (try clear hk); (try clear hi); have hcz9_0 : w8.cell? ⟨gb288, 0, none⟩ = some (.string a0_0) := (blk_cell BK288.out 0).trans rfl; have hcz9_1 : w8.cell? ⟨gb288, 1, none⟩ = some (.string a0_1) := (blk_cell BK288.out 1).trans rfl; have hfz9_0 := blk_frozen BK288.out 0; have hfz9_1 := blk_frozen BK288.out 1))
        go_ret2
        exact ⟨by first | rfl | (simp [errW_none, errW_some] <;> rfl) | (simp [*, errW_none, errW_some] <;> rfl), by repeat (first | (with_reducible first | exact HB.out | apply below_alloc | apply pw_below_drewN | apply below_drew1 | refine below_set ?_ GE288.out) | exact HB.out)⟩
      · rw [if_neg c5] at H
        exact absurd H (by simp)
    · rw [if_neg c4] at H
      have c4b0 : (a0_1.toList == ([] : List UInt8)) = false := beq_eq_false_iff_ne.mpr c4
      have c4b1 : (a0_1.toList != ([] : List UInt8)) = true := bne_iff_ne.mpr c4
      by_cases c10 : a0_0.size + 2 ≤ 9223372036854775807
      · rw [if_pos c10] at H
        have c10b0 := eq_true c10
        have c10b1 : decide (a0_0.size + 2 ≤ 9223372036854775807) = true := decide_eq_true c10
        try have c10b2 : (9223372036854775807 < a0_0.size + 2) = False := eq_false (Nat.not_lt.2 c10)
        by_cases c11 : (a0_0 ++ (⟨#[58, 32]⟩ : ByteArray)).size + a0_1.size ≤ 9223372036854775807
        · rw [if_pos c11] at H
          have c11b0 := eq_true c11
          try simp only [ByteArray.size_append, ByteArray.size_extract, Nat.min_self] at c11b0
          have c11b1 : decide ((a0_0 ++ (⟨#[58, 32]⟩ : ByteArray)).size + a0_1.size ≤ 9223372036854775807) = true := decide_eq_true c11
          try simp only [ByteArray.size_append, ByteArray.size_extract, Nat.min_self] at c11b1
          try have c11b2 : (9223372036854775807 < (a0_0 ++ (⟨#[58, 32]⟩ : ByteArray)).size + a0_1.size) = False := eq_false (Nat.not_lt.2 c11)
          try simp only [ByteArray.size_append, ByteArray.size_extract, Nat.min_self] at c11b2
          simp only [Option.some.injEq, Prod.mk.injEq] at H
          obtain ⟨rfl, rfl⟩ := H
          go_enter Tryz.func152, Tryz.ntmps152
          go_wp2_with (first | ((with_reducible refine gate_dst (N := 1) rfl ?_); refine box_event ?hg (N := 1) ?hd (cs := #[.string a0_0, .string a0_1]) (t := 28) ?hr ?_; (case hd => rfl); (case hg => rfl); (case hr => first | (go_simp; done) | (go_simp; rfl)); intro gb288 hg w12 hbox hb; have n0_ := Aside0.mk (below_step (by repeat (first | (with_reducible first | exact HB.out | apply below_alloc | apply pw_below_drewN | apply below_drew1) | exact HB.out)) hb); have n1_ := Aside0.mk (hbox); have n2_ := Aside0.mk ((by rw [hg]; exact (below_size (by repeat (first | (with_reducible first | exact HB.out | apply below_alloc | apply pw_below_drewN | apply below_drew1) | exact HB.out))) : w.heap.size ≤ gb288)); have n3_ := Aside0.mk ((by rw [hg]; exact (below_size (by repeat (first | (with_reducible first | exact HB.out | apply below_alloc | apply pw_below_drewN | apply below_drew1) | exact HB.out))) : w.heap.size ≤ gb288)); clear HB; have HB := n0_; have BK288 := n1_; have GW288 := n2_; have GE288 := n3_; clear n0_ n1_ n2_ n3_; clear hb hbox hg; have hcz13_0 : w12.cell? ⟨gb288, 0, none⟩ = some (.string a0_0) := (blk_cell BK288.out 0).trans rfl; have hcz13_1 : w12.cell? ⟨gb288, 1, none⟩ = some (.string a0_1) := (blk_cell BK288.out 1).trans rfl; have hfz13_0 := blk_frozen BK288.out 0; have hfz13_1 := blk_frozen BK288.out 1) | ((with_reducible refine gate_callee (f := 80) rfl ?_); refine goesL_ (some 6) rfl rfl Tryz.func80 (by kernel_rfl) rfl #[.agg #[.string a0_0, .string a0_1]] rfl (by (try simp only [List.map_toArray, List.map_cons, List.map_nil]); first | done | rfl | (simp only [List.length_drop, List.length_take]; rfl)) ?_; (with_reducible refine (field_Right.calls a0_0 a0_1 true _ ?side1 A2.out).mono ?_); (case side1 => first | exact hG | exact TabOk.drewN hG _ | exact TabOk.drewN (TabOk.drewN hG _) _ | exact TabOk.below hG (by repeat (first | (with_reducible first | exact HB.out | apply below_alloc | apply pw_below_drewN | apply below_drew1 | refine below_set ?_ GE288.out) | exact HB.out))); rintro e w14 ⟨rfl, hb⟩; refine ⟨_, rfl, ?_⟩; have n0_ := Aside0.mk (blk_below (g := gb288) (o := .cells #[.string a0_0, .string a0_1] 28 (0, 0)) (by (with_reducible repeat (first | refine blk_drewN ?_ _ | refine blk_drew ?_ | refine blk_alloc ?_ _)); exact BK288.out) hb); have n1_ := Aside0.mk (below_step (by repeat (first | (with_reducible first | exact HB.out | apply below_alloc | apply pw_below_drewN | apply below_drew1 | refine below_set ?_ GE288.out) | exact HB.out)) hb); clear BK288; clear HB; have BK288 := n0_; have HB := n1_; clear n0_ n1_; (try clear hb); (try clear hb2); (try clear hk); (try clear hi); have hcz15_0 : w14.cell? ⟨gb288, 0, none⟩ = some (.string a0_0) := (blk_cell BK288.out 0).trans rfl; have hcz15_1 : w14.cell? ⟨gb288, 1, none⟩ = some (.string a0_1) := (blk_cell BK288.out 1).trans rfl; have hfz15_0 := blk_frozen BK288.out 0; have hfz15_1 := blk_frozen BK288.out 1))
          go_ret2
          exact ⟨by first | rfl | (simp [errW_none, errW_some] <;> rfl) | (simp [*, errW_none, errW_some] <;> rfl), by repeat (first | (with_reducible first | exact HB.out | apply below_alloc | apply pw_below_drewN | apply below_drew1 | refine below_set ?_ GE288.out) | exact HB.out)⟩
        · rw [if_neg c11] at H
          exact absurd H (by simp)
      · rw [if_neg c10] at H
        exact absurd H (by simp)
  · replace c3 := Bool.eq_false_iff.mpr c3
    subst c3
    have H1 : (some ((⟨#[]⟩ : ByteArray), 1)) = some (r1, r2) := by rw [if_neg (show ¬ (false = true) by decide)] at H; exact H
    clear H
    have H := H1
    clear H1
    simp only [Option.some.injEq, Prod.mk.injEq] at H
    obtain ⟨rfl, rfl⟩ := H
    go_enter Tryz.func152, Tryz.ntmps152
    go_wp2_with (first | ((with_reducible refine gate_dst (N := 1) rfl ?_); refine box_event ?hg (N := 1) ?hd (cs := #[.string a0_0, .string a0_1]) (t := 28) ?hr ?_; (case hd => rfl); (case hg => rfl); (case hr => first | (go_simp; done) | (go_simp; rfl)); intro gb288 hg w16 hbox hb; have n0_ := Aside0.mk (below_step (by repeat (first | (with_reducible first | exact HB.out | apply below_alloc | apply pw_below_drewN | apply below_drew1) | exact HB.out)) hb); have n1_ := Aside0.mk (hbox); have n2_ := Aside0.mk ((by rw [hg]; exact (below_size (by repeat (first | (with_reducible first | exact HB.out | apply below_alloc | apply pw_below_drewN | apply below_drew1) | exact HB.out))) : w.heap.size ≤ gb288)); have n3_ := Aside0.mk ((by rw [hg]; exact (below_size (by repeat (first | (with_reducible first | exact HB.out | apply below_alloc | apply pw_below_drewN | apply below_drew1) | exact HB.out))) : w.heap.size ≤ gb288)); clear HB; have HB := n0_; have BK288 := n1_; have GW288 := n2_; have GE288 := n3_; clear n0_ n1_ n2_ n3_; clear hb hbox hg; have hcz17_0 : w16.cell? ⟨gb288, 0, none⟩ = some (.string a0_0) := (blk_cell BK288.out 0).trans rfl; have hcz17_1 : w16.cell? ⟨gb288, 1, none⟩ = some (.string a0_1) := (blk_cell BK288.out 1).trans rfl; have hfz17_0 := blk_frozen BK288.out 0; have hfz17_1 := blk_frozen BK288.out 1) | ((with_reducible refine gate_callee (f := 80) rfl ?_); refine goesL_ (some 6) rfl rfl Tryz.func80 (by kernel_rfl) rfl #[.agg #[.string a0_0, .string a0_1]] rfl (by (try simp only [List.map_toArray, List.map_cons, List.map_nil]); first | done | rfl | (simp only [List.length_drop, List.length_take]; rfl)) ?_; (with_reducible refine (field_Right.calls a0_0 a0_1 false _ ?side1 A2.out).mono ?_); (case side1 => first | exact hG | exact TabOk.drewN hG _ | exact TabOk.drewN (TabOk.drewN hG _) _ | exact TabOk.below hG (by repeat (first | (with_reducible first | exact HB.out | apply below_alloc | apply pw_below_drewN | apply below_drew1 | refine below_set ?_ GE288.out) | exact HB.out))); rintro e w18 ⟨rfl, hb⟩; refine ⟨_, rfl, ?_⟩; have n0_ := Aside0.mk (blk_below (g := gb288) (o := .cells #[.string a0_0, .string a0_1] 28 (0, 0)) (by (with_reducible repeat (first | refine blk_drewN ?_ _ | refine blk_drew ?_ | refine blk_alloc ?_ _)); exact BK288.out) hb); have n1_ := Aside0.mk (below_step (by repeat (first | (with_reducible first | exact HB.out | apply below_alloc | apply pw_below_drewN | apply below_drew1 | refine below_set ?_ GE288.out) | exact HB.out)) hb); clear BK288; clear HB; have BK288 := n0_; have HB := n1_; clear n0_ n1_; (try clear hb); (try clear hb2); (try clear hk); (try clear hi)))
    go_ret2
    exact ⟨by first | rfl | (simp [errW_none, errW_some] <;> rfl) | (simp [*, errW_none, errW_some] <;> rfl), by repeat (first | (with_reducible first | exact HB.out | apply below_alloc | apply pw_below_drewN | apply below_drew1 | refine below_set ?_ GE288.out) | exact HB.out)⟩
end Go.Proofs.YtmmbpbgcobmifaaGreatDoor.Pr
end
section
namespace Go.Proofs.YtmmbpbgcobmifaaGreatDoor.Pr
end Go.Proofs.YtmmbpbgcobmifaaGreatDoor.Pr
namespace Go.Proofs.YtmmbpbgcobmifaaGreatDoorH
open Go.RowKit Go.Proofs.YtmmbpbgcobmifaaGreatDoorW.PrintWords Go.Proofs.YtmmbpbgcobmifaaGreatDoorW.PrintLast Go.Proofs.YtmmbpbgcobmifaaGreatDoorW.PrintMore Go.Proofs.YtmmbpbgcobmifaaGreatDoor.Pr
theorem findIdx_at {α : Type} (p : α → Bool) (x : α) (l2 : List α) (hx : p x = true) : ∀ l1 : List α, (∀ c ∈ l1, p c = false) → (l1 ++ x :: l2).findIdx p = l1.length
  | [], _ => by rw [List.nil_append, List.findIdx_cons, hx]; rfl
  | c :: l1, h => by
    rw [List.cons_append, List.findIdx_cons, h c (List.mem_cons_self ..), findIdx_at p x l2 hx l1 (fun c hc => h c (List.mem_cons_of_mem _ hc))]
    rfl
theorem dropWhile_blank (p : UInt8 → Bool) (X : List UInt8) : ∀ bl : List UInt8, bl.all p = true → (bl ++ X).dropWhile p = X.dropWhile p
  | [], _ => rfl
  | c :: bl, h => by
    rw [List.all_cons, Bool.and_eq_true] at h
    rw [List.cons_append, List.dropWhile_cons_of_pos h.1, dropWhile_blank p X bl h.2]
theorem rtrim_blank (p : UInt8 → Bool) (X br : List UInt8) (h : br.all p = true) : rtrim p (X ++ br) = rtrim p X := by
  unfold rtrim
  rw [List.reverse_append, dropWhile_blank p _ _ (by rw [List.all_reverse]; exact h)]
theorem trimL_mid (bl X br : List UInt8) (h1 : bl.all blankU = true) (h2 : br.all blankU = true) : trimL (bl ++ (X ++ br)) = trimL X := by
  rw [trimL_eq', dropWhile_blank _ _ _ h1, ← trimL_eq', trimL_eq, rtrim_blank _ _ _ h2, ← trimL_eq]
theorem text_of_blank (l : List UInt8) (h : l.all blankU = true) : (l.all fun c => textI c.toNat) = true := by
  rw [List.all_eq_true] at h ⊢
  intro x hx
  unfold textI
  rw [blankU_int, h x hx, Bool.true_or]
theorem parse_line (s a b : ByteArray) (bl br : List UInt8) (hs : s.data.toList = a.data.toList ++ 58 :: (bl ++ (b.data.toList ++ br))) (hbl : bl.all blankU = true) (hbr : br.all blankU = true) (hr : rightB a b = true) :
    lineB s = true ∧ parseF s = a ∧ parseV s = b := by
  unfold rightB valueB at hr
  rw [Bool.and_eq_true, Bool.and_eq_true, decide_eq_true_eq] at hr
  obtain ⟨ha, hb, ht⟩ := hr
  have hna : ∀ c ∈ a.data.toList, (c == 58) = false := by
    unfold tokB allB at ha
    rw [Bool.and_eq_true, List.all_eq_true] at ha
    intro c hc
    have h := ha.2 c hc
    cases h58 : c == 58 with
    | false => rfl
    | true =>
      rw [beq_iff_eq.1 h58] at h
      exact absurd h (by decide)
  have hcol : colon s = a.data.toList.length := by
    unfold colon
    rw [hs]
    exact findIdx_at (· == 58) 58 _ rfl _ hna
  have hsz : s.size = a.data.toList.length + (1 + (bl.length + (b.data.toList.length + br.length))) := by
    rw [size_eq_length, hs]
    simp
    omega
  have hn : nameOf s = a := bytes_ext (by rw [nameOf, extract_to, hcol, hs, List.take_left])
  have hrest : (restOf s).data.toList = bl ++ (b.data.toList ++ br) := by
    rw [restOf, extract_from, hcol, hs, ← List.drop_drop, List.drop_left]
    rfl
  have htr : trimS (restOf s) = b := bytes_ext (by rw [trimS_data, hrest, trimL_mid _ _ _ hbl hbr, ← trimS_data, ht])
  have hl : lineB s = true := by
    unfold lineB
    rw [Bool.and_eq_true, Bool.and_eq_true, decide_eq_true_eq]
    refine ⟨by omega, by rw [hn]; exact ha, ?_⟩
    unfold allB at hb ⊢
    rw [hrest, List.all_append, List.all_append, text_of_blank bl hbl, hb, text_of_blank br hbr]
    rfl
  refine ⟨hl, ?_, ?_⟩
  · unfold parseF
    rw [if_pos hl, hn]
  · unfold parseV
    rw [if_pos hl, htr]
def putS (a b : ByteArray) : ByteArray := if b.size = 0 then a ++ (⟨#[58]⟩ : ByteArray) else (a ++ (⟨#[58, 32]⟩ : ByteArray)) ++ b
theorem data_append (a b : ByteArray) : (a ++ b).data.toList = a.data.toList ++ b.data.toList := append_data a b
theorem putS_parse (a b : ByteArray) (hr : rightB a b = true) : lineB (putS a b) = true ∧ parseF (putS a b) = a ∧ parseV (putS a b) = b := by
  unfold putS
  by_cases h : b.size = 0
  · rw [if_pos h]
    have hb : b.data.toList = [] := by rw [size_eq_length] at h; exact List.length_eq_zero_iff.1 h
    exact parse_line _ a b [] [] (by rw [data_append, hb]; rfl) rfl rfl hr
  · rw [if_neg h]
    exact parse_line _ a b [32] [] (by rw [data_append, data_append, List.append_nil, List.append_assoc]; rfl) rfl rfl hr
theorem putS_size (a b : ByteArray) : (putS a b).size ≤ a.size + 2 + b.size := by
  unfold putS
  by_cases h : b.size = 0
  · rw [if_pos h, ByteArray.size_append, show (⟨#[58]⟩ : ByteArray).size = 1 from rfl]
    omega
  · rw [if_neg h, ByteArray.size_append, ByteArray.size_append, show (⟨#[58, 32]⟩ : ByteArray).size = 2 from rfl]
    omega
theorem nil_size (b : ByteArray) : (b.toList = ([] : List UInt8)) ↔ b.size = 0 := by
  rw [ByteArray.toList_eq, size_eq_length]
  exact List.length_eq_zero_iff.symm
theorem field_Put_eq (a b : ByteArray) (ha : a.size ≤ 140737488351232) (hb : b.size ≤ 140737488351232) : field_Put.f a b = some (if rightB a b then putS a b else ⟨#[]⟩, if rightB a b then 0 else 1) := by
  unfold field_Put.f putS
  rw [field_Right_eq a b (by omega) (by omega), Option.bind_some]
  cases rightB a b with
  | false => rfl
  | true =>
    rw [if_pos rfl, if_pos rfl, if_pos rfl]
    by_cases h : b.size = 0
    · rw [if_pos ((nil_size b).2 h), if_pos (by omega), if_pos h]
    · rw [if_neg (fun e => h ((nil_size b).1 e)), if_pos (by omega), if_pos (by rw [ByteArray.size_append, show (⟨#[58, 32]⟩ : ByteArray).size = 2 from rfl]; omega), if_neg h]
end Go.Proofs.YtmmbpbgcobmifaaGreatDoorH
end
section
namespace Go.Proofs.YtmmbpbgcobmifaaGreatDoor.Pr
end Go.Proofs.YtmmbpbgcobmifaaGreatDoor.Pr
namespace Go.Proofs.YtmmbpbgcobmifaaGreatDoorH
set_option linter.unusedVariables false
set_option linter.unusedSimpArgs false
open Go.RowKit Go.Proofs.YtmmbpbgcobmifaaGreatDoorW.PrintWords Go.Proofs.YtmmbpbgcobmifaaGreatDoorW.PrintLast Go.Proofs.YtmmbpbgcobmifaaGreatDoorW.PrintMore Go.Proofs.YtmmbpbgcobmifaaGreatDoor.Pr Go.Proofs.YtmmbpbgcobmifaaGreatDoorM
theorem bytesOf_appendM (a b : ByteArray) : bytesOf (a ++ b) = bytesOf a ++ bytesOf b := by
  unfold bytesOf
  rw [data_append, List.map_append]
theorem bytesOf_byteM (s : ByteArray) : ByteL (bytesOf s) := by
  intro x hx
  unfold bytesOf at hx
  obtain ⟨c, _, rfl⟩ := List.mem_map.1 hx
  have := c.toNat_lt
  omega
theorem dig_hexD : ∀ d : Fin 16, digI (hexD d.val) = (d.val : Int) := by decide +kernel
theorem dig_nat {d : Nat} (h : d < 16) : digI (hexD d) = (d : Int) := dig_hexD ⟨d, h⟩
section
variable {e0 e1 e2 : Nat}
theorem run_hexP (n : Nat) (hn : n < 1099511627776) : ∀ (r : List Int) (i : Nat) (X : MSt Fld), X.place = 0 → X.n = 0 → X.count = 0 → mrun (envM e0 e1 e2) X (hexL n ++ r) i = mrun (envM e0 e1 e2) { X with n := n, count := (hexL n).length } r (i + (hexL n).length) := by
  induction n using Nat.strongRecOn with
  | ind n ih =>
    intro r i X hp hz hc
    by_cases h : n < 16
    · have hd : (envM e0 e1 e2).dg (hexD n) = (n : Int) := dig_nat h
      rw [hexL_lt h, List.singleton_append, run_on (x := { X with n := n, count := 1 }) (by
        rw [step0 hp, hd, if_pos (by omega), if_neg (by rw [hz, hc]; omega), hz, hc]
        simp) (by show X.place ≠ 11; omega)]
      rfl
    · have hm : n % 16 < 16 := Nat.mod_lt _ (by decide)
      have hd : (envM e0 e1 e2).dg (hexD (n % 16)) = ((n % 16 : Nat) : Int) := dig_nat hm
      have hl := hexL_le 9 (n / 16) (by omega)
      rw [hexL_ge (by omega), List.append_assoc, ih (n / 16) (by omega) (by omega) _ i X hp hz hc, List.singleton_append, run_on (x := { X with n := n, count := (hexL (n / 16)).length + 1 }) (by
        rw [step0 (by exact hp), hd, if_pos (by omega), if_neg (by
          show ¬ ((hexL (n / 16)).length = 16 ∨ (4611686018427387903 - ((n % 16 : Nat) : Int).toNat) / 16 < n / 16)
          omega)]
        show Except.ok { X with n := 16 * (n / 16) + ((n % 16 : Nat) : Int).toNat, count := (hexL (n / 16)).length + 1 } = _
        congr 2
        omega) (by show X.place ≠ 11; omega), List.length_append]
      rfl
def ExtOk (e0 : Nat) (ext : List Int) : Prop := ext.length ≤ e0 ∧ (ext = [] ∨ ∃ t, ext = 59 :: t ∧ ∀ c ∈ t, textB c = true ∧ c ≠ 13)
theorem run_textP : ∀ (t r : List Int) (i : Nat) (X : MSt Fld), X.place = 1 → (∀ c ∈ t, textB c = true ∧ c ≠ 13) → X.count + t.length ≤ e0 → mrun (envM e0 e1 e2) X (t ++ r) i = mrun (envM e0 e1 e2) { X with count := X.count + t.length } r (i + t.length)
  | [], r, i, X, _, _, _ => rfl
  | c :: t, r, i, X, hp, ht, hl => by
    obtain ⟨h1, h2⟩ := ht c List.mem_cons_self
    rw [List.length_cons] at hl
    rw [List.cons_append, run_on (x := { X with count := X.count + 1 }) (by
      rw [step1 hp, if_neg h2, if_neg (by rw [show (envM e0 e1 e2).tx c = textB c from rfl, h1]; simp), if_neg (by show ¬ e0 ≤ X.count; omega)]) (by show X.place ≠ 11; omega),
      run_textP t r (i + 1) { X with count := X.count + 1 } hp (fun c hc => ht c (List.mem_cons_of_mem _ hc)) (by show X.count + 1 + t.length ≤ e0; omega), List.length_cons]
    show mrun _ { X with count := X.count + 1 + t.length } _ _ = _
    rw [show X.count + 1 + t.length = X.count + (t.length + 1) by omega, show i + 1 + t.length = i + (t.length + 1) by omega]
theorem run_crP (X : MSt Fld) (r : List Int) (i : Nat) (hp : X.place = 2) : mrun (envM e0 e1 e2) X (10 :: r) i = mrun (envM e0 e1 e2) { X with place := if 0 < X.n then 3 else 6 } r (i + 1) := by
  by_cases h : 0 < X.n
  · rw [if_pos h, run_on (x := { X with place := 3 }) (by rw [step2 hp, if_neg (by simp), if_pos h]) (by simp)]
  · rw [if_neg h, run_on (x := { X with place := 6 }) (by rw [step2 hp, if_neg (by simp), if_neg h]) (by simp)]
theorem run_extP (ext : List Int) (hx : ExtOk e0 ext) (r : List Int) (i : Nat) (X : MSt Fld) (hp : X.place = 0) (hc : X.count ≠ 0) : ∃ k, mrun (envM e0 e1 e2) X (ext ++ 13 :: 10 :: r) i = mrun (envM e0 e1 e2) { X with count := k, place := if 0 < X.n then 3 else 6 } r (i + ext.length + 2) := by
  have d13 : ¬ (0 ≤ (envM e0 e1 e2).dg 13) := by have := (goodM e0 e1 e2).d13; show ¬ (0 ≤ digI 13); omega
  have d59 : ¬ (0 ≤ (envM e0 e1 e2).dg 59) := by have := (goodM e0 e1 e2).d59; show ¬ (0 ≤ digI 59); omega
  obtain ⟨hl, h⟩ := hx
  rcases h with rfl | ⟨t, rfl, ht⟩
  · refine ⟨X.count, ?_⟩
    rw [List.nil_append, run_on (x := { X with place := 2 }) (by
      rw [step0 hp, if_neg d13, if_neg (by simp [hc]), if_pos rfl]) (by simp), run_crP _ _ _ rfl]
    rfl
  · rw [List.length_cons] at hl
    refine ⟨1 + t.length, ?_⟩
    rw [List.cons_append, run_on (x := { X with place := 1, count := 1 }) (by
      rw [step0 hp, if_neg d59, if_neg (by simp [hc]), if_neg (by simp), if_neg (by show ¬ e0 < 1; omega)]) (by simp),
      run_textP t _ _ _ rfl ht (by show 1 + t.length ≤ e0; omega), run_on (x := { X with place := 2, count := 1 + t.length }) (by
      rw [step1 rfl, if_pos rfl]) (by simp), run_crP _ _ _ rfl]
    show mrun _ { X with place := if 0 < X.n then 3 else 6, count := 1 + t.length } r _ = _
    congr 1
    rw [List.length_cons]
    omega
def chunkP (ext c : List Int) : List Int := if c.length = 0 then [] else hexL c.length ++ (ext ++ (13 :: 10 :: (c ++ [13, 10])))
theorem run_chunkP (ext : List Int) (hx : ExtOk e0 ext) (c r : List Int) (hc : c.length < 1099511627776) (i : Nat) (X : MSt Fld) (hp : X.place = 0) (hn : X.n = 0) (hz : X.count = 0) : mrun (envM e0 e1 e2) X (chunkP ext c ++ r) i = mrun (envM e0 e1 e2) { X with data := X.data ++ c } r (i + (chunkP ext c).length) := by
  unfold chunkP
  by_cases h : c.length = 0
  · rw [if_pos h, List.length_eq_zero_iff.1 h, List.append_nil]
    rfl
  · obtain ⟨m, hm⟩ : ∃ m, c.length = m + 1 := ⟨c.length - 1, by omega⟩
    have hpos := hexL_pos c.length
    rw [if_neg h, List.append_assoc, run_hexP c.length hc _ i X hp hn hz, List.append_assoc]
    obtain ⟨k, hk⟩ := run_extP (e1 := e1) (e2 := e2) ext hx (c ++ [13, 10] ++ r) (i + (hexL c.length).length) { X with n := c.length, count := (hexL c.length).length } hp (by show (hexL c.length).length ≠ 0; omega)
    rw [List.cons_append, List.cons_append, hk, if_pos (by show 0 < c.length; omega), run_data m _ _ _ rfl hm, if_pos (by rw [List.length_append, List.length_append]; omega), ← hm, List.append_assoc, List.take_left, List.drop_left]
    rw [List.cons_append, List.cons_append, List.nil_append, run_on (x := { X with place := 5, n := 0, count := k, data := X.data ++ c }) (by rw [step4 rfl, if_neg (by simp)]) (by simp), run_on (x := { X with place := 0, n := 0, count := 0, data := X.data ++ c }) (by rw [step5 rfl, if_neg (by simp)]) (by simp)]
    have e : ({ X with place := 0, n := 0, count := 0, data := X.data ++ c } : MSt Fld) = { X with data := X.data ++ c } := by
      cases X; cases hp; cases hn; cases hz; rfl
    rw [e]
    congr 1
    rw [List.length_append, List.length_append, List.length_cons, List.length_cons, List.length_append]
    show _ = i + ((hexL c.length).length + (ext.length + (c.length + 2 + 1 + 1)))
    omega
theorem run_chunksP (ext : List Int) (hx : ExtOk e0 ext) : ∀ (l : List (List Int)) (r : List Int) (i : Nat) (X : MSt Fld), (∀ c ∈ l, c.length < 1099511627776) → X.place = 0 → X.n = 0 → X.count = 0 → mrun (envM e0 e1 e2) X (l.flatMap (chunkP ext) ++ r) i = mrun (envM e0 e1 e2) { X with data := X.data ++ l.flatten } r (i + (l.flatMap (chunkP ext)).length)
  | [], r, i, X, _, _, _, _ => by simp
  | c :: l, r, i, X, hc, hp, hn, hz => by
    rw [List.flatMap_cons, List.append_assoc, run_chunkP ext hx c _ (hc c List.mem_cons_self) i X hp hn hz, run_chunksP ext hx l r _ { X with data := X.data ++ c } (fun d hd => hc d (List.mem_cons_of_mem _ hd)) hp hn hz, List.flatten_cons, List.length_append]
    show mrun _ { X with data := X.data ++ c ++ l.flatten } _ _ = _
    rw [List.append_assoc, Nat.add_assoc]
theorem lineStep {X : MSt Fld} {c : Int} (h : X.size < e2) (hp : X.place ≠ 9) : mline (envM e0 e1 e2) X c = .ok { X with size := X.size + 1, text := X.text ++ [c] } := line_on h (fun e => hp e.2)
theorem run_nameP : ∀ (a r : List Int) (i : Nat) (X : MSt Fld), X.place = 7 → (∀ c ∈ a, tokI c = true ∧ c ≠ 58) → X.size + a.length ≤ e2 → mrun (envM e0 e1 e2) X (a ++ r) i = mrun (envM e0 e1 e2) { X with size := X.size + a.length, text := X.text ++ a } r (i + a.length)
  | [], r, i, X, _, _, _ => by simp
  | c :: a, r, i, X, hp, ha, hl => by
    obtain ⟨h1, h2⟩ := ha c List.mem_cons_self
    rw [List.length_cons] at hl
    rw [List.cons_append, run_on (x := { X with size := X.size + 1, text := X.text ++ [c] }) (by
      rw [step7 hp, if_neg h2, show (envM e0 e1 e2).tk c = tokI c from rfl, h1, if_neg (by simp), lineStep (by omega) (by omega)]) (by show X.place ≠ 11; omega),
      run_nameP a r (i + 1) { X with size := X.size + 1, text := X.text ++ [c] } hp (fun c hc => ha c (List.mem_cons_of_mem _ hc)) (by show X.size + 1 + a.length ≤ e2; omega), List.length_cons]
    show mrun _ { X with size := X.size + 1 + a.length, text := X.text ++ [c] ++ a } _ _ = _
    rw [show X.size + 1 + a.length = X.size + (a.length + 1) by omega, show i + 1 + a.length = i + (a.length + 1) by omega, List.append_assoc, List.singleton_append]
theorem run_valueP : ∀ (a r : List Int) (i : Nat) (X : MSt Fld), X.place = 8 → (∀ c ∈ a, textB c = true ∧ c ≠ 13) → X.size + a.length ≤ e2 → mrun (envM e0 e1 e2) X (a ++ r) i = mrun (envM e0 e1 e2) { X with size := X.size + a.length, text := X.text ++ a } r (i + a.length)
  | [], r, i, X, _, _, _ => by simp
  | c :: a, r, i, X, hp, ha, hl => by
    obtain ⟨h1, h2⟩ := ha c List.mem_cons_self
    rw [List.length_cons] at hl
    rw [List.cons_append, run_on (x := { X with size := X.size + 1, text := X.text ++ [c] }) (by
      rw [step8 hp, if_neg h2, show (envM e0 e1 e2).tx c = textB c from rfl, h1, if_neg (by simp), lineStep (by omega) (by omega)]) (by show X.place ≠ 11; omega),
      run_valueP a r (i + 1) { X with size := X.size + 1, text := X.text ++ [c] } hp (fun c hc => ha c (List.mem_cons_of_mem _ hc)) (by show X.size + 1 + a.length ≤ e2; omega), List.length_cons]
    show mrun _ { X with size := X.size + 1 + a.length, text := X.text ++ [c] ++ a } _ _ = _
    rw [show X.size + 1 + a.length = X.size + (a.length + 1) by omega, show i + 1 + a.length = i + (a.length + 1) by omega, List.append_assoc, List.singleton_append]
theorem run_lineP (n0 : Int) (n v r : List Int) (hn : ∀ c ∈ n0 :: n, tokI c = true ∧ c ≠ 58) (h13 : n0 ≠ 13) (hv : ∀ c ∈ v, textB c = true ∧ c ≠ 13) (i : Nat) (X : MSt Fld) (hp : X.place = 6) (ht : X.text = []) (hl : X.lines < e1) (hz : X.size + ((n0 :: n) ++ 58 :: (v ++ [13, 10])).length ≤ e2) :
    mrun (envM e0 e1 e2) X ((n0 :: n) ++ 58 :: (v ++ [13, 10]) ++ r) i = mrun (envM e0 e1 e2) { X with lines := X.lines + 1, size := X.size + ((n0 :: n) ++ 58 :: (v ++ [13, 10])).length, fields := X.fields ++ [pfM ((n0 :: n) ++ 58 :: v)] } r (i + ((n0 :: n) ++ 58 :: (v ++ [13, 10])).length) := by
  have hlen : ((n0 :: n) ++ 58 :: (v ++ [13, 10])).length = n.length + v.length + 4 := by
    simp only [List.length_append, List.length_cons, List.length_nil]; omega
  rw [hlen] at hz ⊢
  obtain ⟨h1, h2⟩ := hn n0 List.mem_cons_self
  have e : (n0 :: n) ++ 58 :: (v ++ [13, 10]) ++ r = n0 :: (n ++ 58 :: (v ++ 13 :: 10 :: r)) := by simp
  rw [e, run_on (x := { X with lines := X.lines + 1, place := 7, size := X.size + 1, text := [n0] }) (by
    rw [step6 hp, if_neg h13, show (envM e0 e1 e2).tk n0 = tokI n0 from rfl, h1, if_neg (by simp), if_neg (by show ¬ e1 ≤ X.lines; omega), lineStep (by show X.size < e2; omega) (by simp)]
    show Except.ok { X with lines := X.lines + 1, place := 7, size := X.size + 1, text := X.text ++ [n0] } = _
    rw [ht]; rfl) (by simp)]
  rw [run_nameP n _ _ _ rfl (fun c hc => hn c (List.mem_cons_of_mem _ hc)) (by show X.size + 1 + n.length ≤ e2; omega)]
  rw [run_on (x := { X with lines := X.lines + 1, place := 8, size := X.size + 1 + n.length + 1, text := [n0] ++ n ++ [58] }) (by
    rw [step7 rfl, if_pos rfl, lineStep (by show X.size + 1 + n.length < e2; omega) (by simp)]) (by simp)]
  rw [run_valueP v _ _ _ rfl hv (by show X.size + 1 + n.length + 1 + v.length ≤ e2; omega)]
  rw [run_on (x := { X with lines := X.lines + 1, place := 9, size := X.size + 1 + n.length + 1 + v.length + 1, text := [n0] ++ n ++ [58] ++ v ++ [13] }) (by
    rw [step8 rfl, if_pos rfl, line_on (by show X.size + 1 + n.length + 1 + v.length < e2; omega) (fun e => absurd e.1 (by decide))]) (by simp)]
  rw [run_on (x := { X with lines := X.lines + 1, place := 6, size := X.size + 1 + n.length + 1 + v.length + 1 + 1, text := [], fields := X.fields ++ [pfM ([n0] ++ n ++ [58] ++ v)] }) (by
    rw [step9 rfl, if_neg (by simp), line_end (by show X.size + 1 + n.length + 1 + v.length + 1 < e2; omega) rfl]
    show Except.ok { X with lines := X.lines + 1, place := 6, size := X.size + 1 + n.length + 1 + v.length + 1 + 1, text := [], fields := X.fields ++ [pfM (([n0] ++ n ++ [58] ++ v ++ [13]).dropLast)] } = _
    rw [List.dropLast_concat]) (by simp)]
  have e2 : [n0] ++ n ++ [58] ++ v = (n0 :: n) ++ 58 :: v := by simp
  rw [e2]
  have e3 : ({ X with lines := X.lines + 1, place := 6, size := X.size + 1 + n.length + 1 + v.length + 1 + 1, text := [], fields := X.fields ++ [pfM ((n0 :: n) ++ 58 :: v)] } : MSt Fld) = { X with lines := X.lines + 1, size := X.size + (n.length + v.length + 4), fields := X.fields ++ [pfM ((n0 :: n) ++ 58 :: v)] } := by
    cases X; cases hp; cases ht
    congr 1
    show _ + 1 + n.length + 1 + v.length + 1 + 1 = _
    omega
  rw [e3]
  congr 1
  omega
theorem tok_ne58 : ∀ c : Fin 256, tokI (c.val : Int) = true → (c.val : Int) ≠ 58 ∧ (c.val : Int) ≠ 13 := by decide +kernel
theorem text_ne13 : ∀ c : Fin 256, textI (c.val : Int) = true → textB (c.val : Int) = true ∧ (c.val : Int) ≠ 13 := by decide +kernel
theorem u8_fin {p : Int → Prop} (h : ∀ c : Fin 256, p (c.val : Int)) (c : UInt8) : p (c.toNat : Int) := h ⟨c.toNat, c.toNat_lt⟩
theorem textI_B {s : ByteArray} (h : allB textI s = true) : ∀ c ∈ bytesOf s, textB c = true ∧ c ≠ 13 := by
  intro c hc
  unfold bytesOf at hc
  obtain ⟨u, hu, rfl⟩ := List.mem_map.1 hc
  unfold allB at h
  rw [List.all_eq_true] at h
  exact u8_fin (p := fun c => textI c = true → textB c = true ∧ c ≠ 13) text_ne13 u (h u hu)
theorem put_shapeM (a b : ByteArray) (hr : rightB a b = true) : ∃ n0 n v, bytesOf (putS a b) = (n0 :: n) ++ 58 :: v ∧ (∀ c ∈ n0 :: n, tokI c = true ∧ c ≠ 58) ∧ n0 ≠ 13 ∧ (∀ c ∈ v, textB c = true ∧ c ≠ 13) := by
  unfold rightB valueB tokB at hr
  rw [Bool.and_eq_true, Bool.and_eq_true, Bool.and_eq_true] at hr
  obtain ⟨⟨h1, h2⟩, h3, h4⟩ := hr
  have hv := textI_B h3
  have ha : ∀ c ∈ bytesOf a, tokI c = true ∧ c ≠ 58 ∧ c ≠ 13 := by
    intro c hc
    unfold bytesOf at hc
    obtain ⟨u, hu, rfl⟩ := List.mem_map.1 hc
    unfold allB at h2
    rw [List.all_eq_true] at h2
    exact ⟨h2 u hu, u8_fin (p := fun c => tokI c = true → c ≠ 58 ∧ c ≠ 13) tok_ne58 u (h2 u hu)⟩
  have hne : bytesOf a ≠ [] := by
    intro e
    unfold bytesOf at e
    rw [List.map_eq_nil_iff.1 e] at h1
    exact absurd h1 (by decide)
  obtain ⟨n0, n, en⟩ := List.exists_cons_of_ne_nil hne
  rw [en] at ha
  have h13 := (ha n0 List.mem_cons_self).2.2
  unfold putS
  by_cases h : b.size = 0
  · rw [if_pos h]
    exact ⟨n0, n, [], by rw [bytesOf_appendM, en]; rfl, fun c hc => ⟨(ha c hc).1, (ha c hc).2.1⟩, h13, fun _ h => absurd h List.not_mem_nil⟩
  · rw [if_neg h]
    refine ⟨n0, n, 32 :: bytesOf b, by rw [bytesOf_appendM, bytesOf_appendM, en, List.append_assoc]; rfl, fun c hc => ⟨(ha c hc).1, (ha c hc).2.1⟩, h13, fun c hc => ?_⟩
    rcases List.mem_cons.1 hc with rfl | hc
    · exact ⟨by decide +kernel, by decide⟩
    · exact hv c hc
theorem strOfNums_bytesM (s : ByteArray) : strOfNums (bytesOf s) = s := by
  apply ByteArray.ext
  apply Array.toList_inj.1
  rw [strOfNums_data]
  unfold bytesOf
  rw [List.map_map]
  exact (List.map_congr_left (fun c _ => by simp)).trans (List.map_id _)
theorem pfM_putS (f : Fld) (hr : rightB f.f0 f.f1 = true) : pfM (bytesOf (putS f.f0 f.f1)) = f := by
  obtain ⟨_, p2, p3⟩ := putS_parse f.f0 f.f1 hr
  unfold pfM fldOf
  rw [show strOfNums (bytesOf (putS f.f0 f.f1)) = putS f.f0 f.f1 from strOfNums_bytesM _, p2, p3]
def GoodF (f : Fld) : Prop := f.f0.size ≤ 1000000 ∧ f.f1.size ≤ 1000000 ∧ rightB f.f0 f.f1 = true
def lineP (f : Fld) : List Int := bytesOf (putS f.f0 f.f1) ++ [13, 10]
theorem run_fieldP (f : Fld) (hf : GoodF f) (r : List Int) (i : Nat) (X : MSt Fld) (hp : X.place = 6) (ht : X.text = []) (hl : X.lines < e1) (hz : X.size + (lineP f).length ≤ e2) : mrun (envM e0 e1 e2) X (lineP f ++ r) i = mrun (envM e0 e1 e2) { X with lines := X.lines + 1, size := X.size + (lineP f).length, fields := X.fields ++ [f] } r (i + (lineP f).length) := by
  obtain ⟨h0, h1, hr⟩ := hf
  unfold lineP at hz ⊢
  obtain ⟨n0, n, v, e, hn, h13, hv⟩ := put_shapeM _ _ hr
  have hpf := pfM_putS f hr
  rw [e] at hz hpf ⊢
  have e' : ((n0 :: n) ++ 58 :: v) ++ [13, 10] = (n0 :: n) ++ 58 :: (v ++ [13, 10]) := by simp
  rw [e'] at hz ⊢
  rw [run_lineP n0 n v r hn h13 hv i X hp ht hl hz, hpf]
def linesP (l : List Fld) : List Int := l.flatMap lineP
theorem run_fieldsP : ∀ (l : List Fld) (r : List Int) (i : Nat) (X : MSt Fld), (∀ f ∈ l, GoodF f) → X.place = 6 → X.text = [] → X.lines + l.length ≤ e1 → X.size + (linesP l).length ≤ e2 → mrun (envM e0 e1 e2) X (linesP l ++ r) i = mrun (envM e0 e1 e2) { X with lines := X.lines + l.length, size := X.size + (linesP l).length, fields := X.fields ++ l } r (i + (linesP l).length)
  | [], r, i, X, _, _, _, _, _ => by simp [linesP]
  | f :: l, r, i, X, hf, hp, ht, hl, hz => by
    have e : linesP (f :: l) = lineP f ++ linesP l := rfl
    rw [e, List.length_append] at hz ⊢
    rw [List.length_cons] at hl ⊢
    rw [List.append_assoc, run_fieldP f (hf f List.mem_cons_self) _ i X hp ht (by omega) (by omega), run_fieldsP l r _ { X with lines := X.lines + 1, size := X.size + (lineP f).length, fields := X.fields ++ [f] } (fun g hg => hf g (List.mem_cons_of_mem _ hg)) hp ht (by show X.lines + 1 + l.length ≤ e1; omega) (by show X.size + (lineP f).length + (linesP l).length ≤ e2; omega)]
    show mrun _ { X with lines := X.lines + 1 + l.length, size := X.size + (lineP f).length + (linesP l).length, fields := X.fields ++ [f] ++ l } _ _ = _
    rw [show X.lines + 1 + l.length = X.lines + (l.length + 1) by omega, Nat.add_assoc X.size, Nat.add_assoc i, List.append_assoc, List.singleton_append]
def putP (ext : List Int) (l : List (List Int)) (fs : List Fld) : List Int := l.flatMap (chunkP ext) ++ (48 :: (ext ++ (13 :: 10 :: (linesP fs ++ [13, 10]))))
theorem run_putP (ext : List Int) (hx : ExtOk e0 ext) (l : List (List Int)) (fs : List Fld) (more : List Int) (hl : ∀ c ∈ l, c.length < 1099511627776) (hf : ∀ f ∈ fs, GoodF f) (h1 : fs.length ≤ e1) (h2 : (linesP fs).length ≤ e2) : ∃ X, runB e0 e1 e2 (putP ext l fs ++ more) = (X, (putP ext l fs).length, 0) ∧ X.data = l.flatten ∧ X.fields = fs := by
  unfold runB putP
  rw [List.append_assoc, run_chunksP ext hx l _ 0 minit hl rfl rfl rfl]
  have hh := run_hexP (e0 := e0) (e1 := e1) (e2 := e2) 0 (by decide) (ext ++ (13 :: 10 :: (linesP fs ++ [13, 10])) ++ more) (0 + (l.flatMap (chunkP ext)).length) (⟨0, 0, 0, 0, 0, [], l.flatten, []⟩ : MSt Fld) rfl rfl rfl
  rw [show hexL 0 = [48] from by rw [hexL_lt (by decide)]; rfl, List.singleton_append] at hh
  rw [List.cons_append]
  refine (fun (Q : ∃ X, mrun (envM e0 e1 e2) (⟨0, 0, 1, 0, 0, [], l.flatten, []⟩ : MSt Fld) (ext ++ (13 :: 10 :: (linesP fs ++ [13, 10])) ++ more) (0 + (l.flatMap (chunkP ext)).length + 1) = (X, (l.flatMap (chunkP ext) ++ (48 :: (ext ++ (13 :: 10 :: (linesP fs ++ [13, 10]))))).length, 0) ∧ X.data = l.flatten ∧ X.fields = fs) => ?_) ?_
  · obtain ⟨X, q, q2⟩ := Q
    exact ⟨X, hh.trans q, q2⟩
  obtain ⟨k, hk⟩ := run_extP (e1 := e1) (e2 := e2) ext hx (linesP fs ++ ([13, 10] ++ more)) (0 + (l.flatMap (chunkP ext)).length + 1) (⟨0, 0, 1, 0, 0, [], l.flatten, []⟩ : MSt Fld) rfl (by simp)
  rw [List.append_assoc, List.cons_append, List.cons_append, List.append_assoc]
  refine ⟨⟨11, 0, k, 0 + fs.length, 0 + (linesP fs).length, [], l.flatten, [] ++ fs⟩, hk.trans ?_, rfl, rfl⟩
  rw [if_neg (by simp), run_fieldsP fs _ _ _ hf rfl rfl (by show 0 + fs.length ≤ e1; omega) (by show 0 + (linesP fs).length ≤ e2; omega)]
  rw [List.cons_append, List.singleton_append, run_on (x := ⟨10, 0, k, 0 + fs.length, 0 + (linesP fs).length, [], l.flatten, [] ++ fs⟩) (by rw [step6 rfl, if_pos rfl]) (by simp), run_fin (x := ⟨11, 0, k, 0 + fs.length, 0 + (linesP fs).length, [], l.flatten, [] ++ fs⟩) (by rw [step10 rfl, if_neg (by simp)]) rfl]
  congr 2
  simp only [List.length_append, List.length_cons, List.length_nil]
  omega
end
end Go.Proofs.YtmmbpbgcobmifaaGreatDoorH
end
section
namespace Go.Proofs.YtmmbpbgcobmifaaGreatDoorH
open Go.RowKit Go.ChangeShapes Go.WideShapes Go.ChangeAt
theorem two_of {α : Type} {l : List α} (h : l.length = 2) : ∃ a b, l = [a, b] := by
  match l, h with
  | [a, b], _ => exact ⟨a, b, rfl⟩
theorem three_of {α : Type} {l : List α} (h : l.length = 3) : ∃ a b c, l = [a, b, c] := by
  match l, h with
  | [a, b, c], _ => exact ⟨a, b, c, rfl⟩
theorem six_of {α : Type} {l : List α} (h : l.length = 6) : ∃ a b c d e f, l = [a, b, c, d, e, f] := by
  match l, h with
  | [a, b, c, d, e, f], _ => exact ⟨a, b, c, d, e, f, rfl⟩
theorem cells_of_one {W : World} {cs : List Value} {y : DataW Unit × List MemPlace} {m : Nat} {x0 : Int}
    (hd : DataW.trod (fun _ => ()) Tryz.prog W 0 (fun _ => true) false m 5 cs = some y) (hy : y.1 = .lit (.int .u8 x0)) : cs = [.int .u8 x0] := by
  obtain ⟨n, e1, e2, _⟩ := DataW.trod_int Tryz.underlying5 hd
  rw [e2] at hy
  simp only [DataW.lit.injEq, Lit.int.injEq, true_and] at hy
  rw [e1, hy]
theorem cells_of_pair {W : World} {cs : List Value} {y : DataW Unit × List MemPlace} {m : Nat} {x0 x1 : Int}
    (hd : DataW.trod (fun _ => ()) Tryz.prog W 0 (fun _ => true) false m 150 cs = some y) (hy : y.1 = .agg [.lit (.int .u8 x0), .lit (.int .u8 x1)]) :
    cs = [.int .u8 x0, .int .u8 x1] := by
  have c5 : Tryz.prog.cellsOf 5 = 1 := by kernel_rfl
  have c2 : Tryz.prog.cellsOf 150 = 2 := by kernel_rfl
  obtain ⟨xs, m, _, ex, hn, hl, hel⟩ := DataW.trod_array Tryz.underlying150 hd
  rw [c2] at hn
  obtain ⟨a, b, rfl⟩ := two_of hn
  obtain ⟨u, v, rfl⟩ := two_of hl
  · rw [ex] at hy
    simp only [List.map_cons, List.map_nil, DataW.agg.injEq, List.cons.injEq, and_true] at hy
    have h0 := hel 0 (by omega)
    have h1 := hel 1 (by omega)
    simp only [c5] at h0 h1
    have e0 := cells_of_one (y := u) (by simpa using h0) hy.1
    have e1 := cells_of_one (y := v) (by simpa using h1) hy.2
    simp at e0 e1
    rw [e0, e1]
theorem cells_of_pairs {W : World} {cs : List Value} {y : DataW Unit × List MemPlace} {m : Nat} {x0 x1 x2 x3 x4 x5 : Int}
    (hd : DataW.trod (fun _ => ()) Tryz.prog W 0 (fun _ => true) false m 151 cs = some y)
    (hy : y.1 = .agg [.agg [.lit (.int .u8 x0), .lit (.int .u8 x1)], .agg [.lit (.int .u8 x2), .lit (.int .u8 x3)], .agg [.lit (.int .u8 x4), .lit (.int .u8 x5)]]) :
    cs = [.int .u8 x0, .int .u8 x1, .int .u8 x2, .int .u8 x3, .int .u8 x4, .int .u8 x5] := by
  have c2 : Tryz.prog.cellsOf 150 = 2 := by kernel_rfl
  have c6 : Tryz.prog.cellsOf 151 = 6 := by kernel_rfl
  obtain ⟨xs, m, _, ex, hn, hl, hel⟩ := DataW.trod_array Tryz.underlying151 hd
  rw [c6] at hn
  obtain ⟨a, b, c, d, e, f, rfl⟩ := six_of hn
  obtain ⟨u, v, z, rfl⟩ := three_of hl
  · rw [ex] at hy
    simp only [List.map_cons, List.map_nil, DataW.agg.injEq, List.cons.injEq, and_true] at hy
    have h0 := hel 0 (by omega)
    have h1 := hel 1 (by omega)
    have h2 := hel 2 (by omega)
    simp only [c2] at h0 h1 h2
    have e0 := cells_of_pair (y := u) (by simpa using h0) hy.1
    have e1 := cells_of_pair (y := v) (by simpa using h1) hy.2.1
    have e2 := cells_of_pair (y := z) (by simpa using h2) hy.2.2
    simp at e0 e1 e2
    rw [e0.1, e0.2, e1.1, e1.2, e2.1, e2.2]
theorem tabOk_of_laid {W : World} {L : List (String × DataW Unit)} (h : laidMetH Tryz.prog L W) (hp : (L.all fun x => x.2.handleName?.isNone) = true)
    (hf : L.filter (fun x => x.1 == "catchpit/octet.ends") = [("catchpit/octet.ends", Go.Proofs.YtmmbpbgcobmifaaGreatDoor.Rows.laid_catchpit_octet_ends)]) (hs : W.ShapedOpen Tryz.prog) : TabOk W := by
  rw [MakeChecks.laidMetH_plain _ _ _ hp] at h
  have h2 := laidMet.filter (fun x => x.1 == "catchpit/octet.ends") h
  rw [hf] at h2
  obtain ⟨ps, ⟨g, t, cs, fuel, p, q, hg, ht, hv, hd, _, _⟩, _, _⟩ := h2
  obtain rfl := Option.some.inj ((show Tryz.prog.globalNamed "catchpit/octet.ends" = some 3 by kernel_rfl).symm.trans hg)
  obtain rfl := Option.some.inj ((show (Tryz.prog.globals[3]?).map (·.type) = some 151 by kernel_rfl).symm.trans ht)
  have e := cells_of_pairs hd rfl
  have hc := World.var?_cell hg hv
  have at_ : ∀ j, cs[j]? = cs.toList[j]? := fun j => (Array.getElem?_toList ..).symm
  rw [e] at at_
  exact ⟨(hc 0).trans (at_ 0), (hc 1).trans (at_ 1), (hc 2).trans (at_ 2), (hc 3).trans (at_ 3), (hc 4).trans (at_ 4), (hc 5).trans (at_ 5), MxOk.of_shaped hs⟩
end Go.Proofs.YtmmbpbgcobmifaaGreatDoorH
end
section
namespace Go.Proofs.YtmmbpbgcobmifaaGreatDoorH
open Go.RowKit Go.ChangeShapes Go.WideShapes Go.ChangeAt Go.Proofs.YtmmbpbgcobmifaaGreatDoorW.PrintWords
def TabZ (w : World) : Prop := w.cell? ⟨5, 15, none⟩ = some (.int .u8 4)
theorem TabZ.below {w w1 : World} (h : TabZ w) (hb : Below w.heap.size w w1) : TabZ w1 := pw_cell_below hb h
def kidsOf : DataW Unit → List (DataW Unit)
  | .agg l => l
  | _ => []
theorem tabZ_of_laid {W : World} {L : List (String × DataW Unit)} (h : laidMetH Tryz.prog L W) (hp : (L.all fun x => x.2.handleName?.isNone) = true)
    (hf : L.filter (fun x => x.1 == "math/bits.deBruijn64tab") = [("math/bits.deBruijn64tab", Go.Proofs.YtmmbpbgcobmifaaGreatDoor.Rows.laid_math_bits_deBruijn64tab)]) (_hs : W.ShapedOpen Tryz.prog) : TabZ W := by
  have c5 : Tryz.prog.cellsOf 5 = 1 := by kernel_rfl
  rw [MakeChecks.laidMetH_plain _ _ _ hp] at h
  have h2 := laidMet.filter (fun x => x.1 == "math/bits.deBruijn64tab") h
  rw [hf] at h2
  obtain ⟨ps, ⟨g, t, cs, fuel, p, q, hg, ht, hv, hd, _, _⟩, _, _⟩ := h2
  obtain rfl := Option.some.inj ((show Tryz.prog.globalNamed "math/bits.deBruijn64tab" = some 5 by kernel_rfl).symm.trans hg)
  obtain rfl := Option.some.inj ((show (Tryz.prog.globals[5]?).map (·.type) = some 164 by kernel_rfl).symm.trans ht)
  have hc := World.var?_cell hg hv
  have at_ : ∀ j, cs[j]? = cs.toList[j]? := fun j => (Array.getElem?_toList ..).symm
  obtain ⟨xs, m, _, ex, hn, hl, hel⟩ := DataW.trod_array Tryz.underlying164 hd
  have h15 := hel 15 (by omega)
  have e : kidsOf Go.Proofs.YtmmbpbgcobmifaaGreatDoor.Rows.laid_math_bits_deBruijn64tab = xs.map (·.1) := congrArg (fun y => kidsOf y.1) ex
  have hx : (xs.map (·.1))[15]? = some (.lit (.int .u8 4)) := by
    rw [← e]
    rfl
  simp only [c5] at h15
  rw [List.getElem?_map] at hx
  obtain ⟨y, hy, hy2⟩ := Option.map_eq_some_iff.1 hx
  have e0 := cells_of_one (y := y) (h15.trans hy) hy2
  refine (hc 15).trans ((at_ 15).trans ?_)
  have := congrArg (fun l => l[0]?) e0
  simpa using this
end Go.Proofs.YtmmbpbgcobmifaaGreatDoorH
end
