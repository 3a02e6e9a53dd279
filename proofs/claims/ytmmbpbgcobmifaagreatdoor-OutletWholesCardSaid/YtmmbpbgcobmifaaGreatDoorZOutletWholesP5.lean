import Derived.Test.YtmmbpbgcobmifaaGreatDoorZOutletWholesP1
import Derived.Test.YtmmbpbgcobmifaaGreatDoorZOutletWholesP3
import Derived.Test.YtmmbpbgcobmifaaGreatDoorZOutletWholesP4
import Derived.RangeFuncFrom
import Derived.RangeFuncWrites
import Derived.RangeFuncBox
import Derived.Maps.AppendAt
import Derived.Shelf.Strings.Builder1
import Derived.Laws.EntriesVeiled
import Derived.HandedShaped
import Derived.Handed
import Derived.SizedLaws
import Derived.Deep.RegionHeld3
import Derived.Lib.SlBytesConst
import Derived.Scope
import Derived.Laws.Pointers
import Derived.Laws.NewBlocks
import Derived.Deep.CutBlock
import Derived.WalkLawsBesides
namespace Go.Proofs.YtmmbpbgcobmifaaGreatDoorW.PrintWords
end Go.Proofs.YtmmbpbgcobmifaaGreatDoorW.PrintWords
namespace Go.Proofs.YtmmbpbgcobmifaaGreatDoorW.PrintLast
end Go.Proofs.YtmmbpbgcobmifaaGreatDoorW.PrintLast
namespace Go.Proofs.YtmmbpbgcobmifaaGreatDoorW.PrintMore
end Go.Proofs.YtmmbpbgcobmifaaGreatDoorW.PrintMore
namespace Go.Proofs.YtmmbpbgcobmifaaGreatDoor.Pr
end Go.Proofs.YtmmbpbgcobmifaaGreatDoor.Pr
namespace Go.Proofs.YtmmbpbgcobmifaaGreatDoorH
end Go.Proofs.YtmmbpbgcobmifaaGreatDoorH
section
namespace Go.Proofs.YtmmbpbgcobmifaaGreatDoor.Pr
end Go.Proofs.YtmmbpbgcobmifaaGreatDoor.Pr
namespace Go.Proofs.YtmmbpbgcobmifaaGreatDoorH
open Go.RowKit Go.Shelf Go.Proofs.YtmmbpbgcobmifaaGreatDoorW.PrintWords Go.Proofs.YtmmbpbgcobmifaaGreatDoorW.PrintLast Go.Proofs.YtmmbpbgcobmifaaGreatDoorW.PrintMore Go.Proofs.YtmmbpbgcobmifaaGreatDoor.Pr
attribute [local go_sem] Oper.semAt_some
def nxt (st c : Int) : Int × Bool := (block_next.f st c).getD (5, false)
theorem one_size (c : Int) : (strOfNums ([c] : List Int)).size = 1 := rfl
theorem nxt_eq (st c : Int) : block_next.f st c = some (nxt st c) := by
  have h1 : octet_Token.f (strOfNums ([c] : List Int)) = some (tokB (strOfNums ([c] : List Int))) := by
    unfold octet_Token.f
    rw [if_pos (by rw [one_size]; omega)]
  have h2 : octet_Text.f (strOfNums ([c] : List Int)) = some (allB textI (strOfNums ([c] : List Int))) := by
    unfold octet_Text.f
    rw [if_pos (by rw [one_size]; omega)]
  unfold nxt block_next.f
  simp only [Option.bind_some, h1, h2]
  repeat' split
  all_goals rfl
theorem bt_get (s : ByteArray) (i : Nat) (h : i < s.size) : bt s (i : Int) = ((s[i]'h).toNat : Int) := by
  rw [bt_nat s i h, List.getD_eq_getElem?_getD, List.getElem?_eq_getElem (by rw [← size_eq_length]; exact h)]
  rfl
def scanP : Nat → ByteArray → Nat → Int → Nat × Int
  | 0, _, i, _ => (i, 4)
  | k + 1, s, i, st => if i < s.size then (if (nxt st (bt s i)).2 = true then (if (nxt st (bt s i)).1 = 5 then (i + 1, 0) else scanP k s (i + 1) (nxt st (bt s i)).1) else (i, 2)) else (i, 4)
theorem scanP_end (k : Nat) (s : ByteArray) (st : Int) : scanP k s s.size st = (s.size, 4) := by
  cases k with
  | zero => rfl
  | succ k => rw [scanP, if_neg (Nat.lt_irrefl _)]
theorem scanP_bad (k : Nat) (s : ByteArray) (i : Nat) (st nx : Int) (hi : i < s.size) (h : nxt st (bt s i) = (nx, false)) : scanP (k + 1) s i st = (i, 2) := by
  rw [scanP, if_pos hi, h]; rfl
theorem scanP_done (k : Nat) (s : ByteArray) (i : Nat) (st : Int) (hi : i < s.size) (h : nxt st (bt s i) = (5, true)) : scanP (k + 1) s i st = (i + 1, 0) := by
  rw [scanP, if_pos hi, h]; rfl
theorem scanP_on (k : Nat) (s : ByteArray) (i : Nat) (st nx : Int) (hi : i < s.size) (h : nxt st (bt s i) = (nx, true)) (h5 : nx ≠ 5) : scanP (k + 1) s i st = scanP k s (i + 1) nx := by
  rw [scanP, if_pos hi, h]; simp only [if_pos]; rw [if_neg h5]
theorem results_cell3 {fn : Func} {p u x : Tmp} {ty : TypeId} (h : fn.results = #[.cell p ty, .tmp u, .tmp x]) (tmps : Array Value) (P : Program) (w : World) (a : Addr) (v : Value)
    (hp : tmps.getD p undef = .pointer (some a)) (hA : (isAgg ty).run P w = .ok false w) (hc : w.cell? a = some v) : (results fn tmps).run P w = .ok (.tuple #[v, tmps.getD u undef, tmps.getD x undef]) w := by
  rw [Array.getD_eq_getD_getElem?] at hp
  simp only [results, h]
  simp [Sem.run_bind, Result.andThen, hp, loadVar, hA, asAddr, go_sem, hc]
def fldOf (s : ByteArray) : Fld := ⟨parseF s, parseV s⟩
def fieldsOf : List (Nat × ByteArray) → List Fld
  | [] => []
  | x :: l => if x.2.size = 0 then [] else fldOf x.2 :: fieldsOf l
theorem fieldsOf_snoc : ∀ (l : List (Nat × ByteArray)) (x : Nat × ByteArray), (∀ y ∈ l, y.2.size ≠ 0) → fieldsOf (l ++ [x]) = fieldsOf l ++ (if x.2.size = 0 then [] else [fldOf x.2])
  | [], x, _ => rfl
  | y :: l, x, h => by
    rw [List.cons_append, fieldsOf, fieldsOf, if_neg (h y List.mem_cons_self), if_neg (h y List.mem_cons_self), fieldsOf_snoc l x (fun z hz => h z (List.mem_cons_of_mem _ hz))]
    rfl
theorem fieldsOf_prefix : ∀ l r : List (Nat × ByteArray), (∃ y ∈ l, y.2.size = 0) → fieldsOf (l ++ r) = fieldsOf l
  | [], _, ⟨_, h, _⟩ => absurd h List.not_mem_nil
  | x :: l, r, ⟨y, hy, h0⟩ => by
    rw [List.cons_append, fieldsOf, fieldsOf]
    by_cases hx : x.2.size = 0
    · rw [if_pos hx, if_pos hx]
    · rw [if_neg hx, if_neg hx, fieldsOf_prefix l r]
      rcases List.mem_cons.1 hy with rfl | hy
      · exact absurd h0 hx
      · exact ⟨y, hy, h0⟩
theorem fieldsOf_length : ∀ l : List (Nat × ByteArray), (fieldsOf l).length ≤ l.length
  | [] => Nat.le_refl _
  | x :: l => by
    have := fieldsOf_length l
    rw [fieldsOf]
    split
    · simp
    · simp only [List.length_cons]; omega
def hasNil (l : List (Nat × ByteArray)) : Prop := ∃ y ∈ l, y.2.size = 0
def noNil (l : List (Nat × ByteArray)) : Prop := ∀ y ∈ l, y.2.size ≠ 0
theorem noNil_snoc {l : List (Nat × ByteArray)} {x : Nat × ByteArray} (h : noNil l) (hx : x.2.size ≠ 0) : noNil (l ++ [x]) := fun y hy => (List.mem_append.1 hy).elim (h y) (fun hy => by rcases List.mem_singleton.1 hy with rfl; exact hx)
def encF (x : Fld) : List Value := [.string x.f0, .string x.f1]
def scanR (s : ByteArray) : List Fld × Int × Int :=
  if (scanP (s.size + 1) s 0 0).2 = 0 then (fieldsOf (linesOf ((s.extract 0 (scanP (s.size + 1) s 0 0).1).size + 1) (s.extract 0 (scanP (s.size + 1) s 0 0).1) 0), (((scanP (s.size + 1) s 0 0).1 : Nat) : Int), 0)
  else ([], (((scanP (s.size + 1) s 0 0).1 : Nat) : Int), (scanP (s.size + 1) s 0 0).2)
theorem extract0_size (s : ByteArray) (k : Nat) (h : k ≤ s.size) : (s.extract 0 k).size = k := by
  have h1 := congrArg List.length (extract_to s k)
  rw [← size_eq_length, List.length_take, ← size_eq_length] at h1
  omega
theorem scanR_bad {s : ByteArray} {i : Nat} {e : Int} (h : scanP (s.size + 1) s 0 0 = (i, e)) (he : e ≠ 0) : scanR s = ([], (i : Int), e) := by
  unfold scanR
  rw [h, if_neg he]
theorem scanR_good {s : ByteArray} {i : Nat} (h : scanP (s.size + 1) s 0 0 = (i, 0)) (hi : i ≤ s.size) : scanR s = (fieldsOf (linesOf (i + 1) (s.extract 0 i) 0), (i : Int), 0) := by
  unfold scanR
  rw [h, if_pos rfl, extract0_size s i hi]
set_option maxRecDepth 100000 in
set_option maxHeartbeats 2000000 in
theorem scan_in (n : Nat) (hn : 4 ≤ n) (s : ByteArray) (hs : s.size < 4000000000) (w : World) (hG : TabOk w) :
    CallsIn Fence.wide n Tryz.prog 51 #[.string s] w fun e w' => ∃ (v : Value) (l : List Fld) (i er : Int), e = .returned (.tuple #[v, .int .i64 i, .int .i64 er]) ∧ scanR s = (l, i, er) ∧ Kd.R k28 28 w' w.heap.size (fun _ => True) v l ∧ Below w.heap.size w w' := by
  have h1 : 1 ≤ n := by omega
  refine callsIn_of_wp_marks Tryz.func51 rfl trivial ?_ rfl
  simp only [Tryz.ntmps51, List.size_toArray, List.length_cons, List.length_nil, Nat.reduceAdd, Nat.reduceSub, Array.replicate_succ, Array.replicate_zero, List.push_toArray, List.append_toArray, List.nil_append, List.cons_append]
  gi_wp2
  refine wpIn_scope_straight ?_
  gi_wp2
  apply wpIn_label
  gi_wp2
  gi_loopw [3, 5] (fun v3 v5 wr => ∃ (i k : Nat) (st : Int), i ≤ s.size ∧ s.size - i < k ∧ v3 = .int .i64 i ∧ v5 = .int .i64 st ∧ st ≠ 5 ∧ Aside0 (scanP (s.size + 1) s 0 0 = scanP k s i st) ∧ Aside0 (Boxed wr w.heap.size 23 (.slice none 0 0)) ∧ Aside0 (Below w.heap.size w wr))
    (fun v3 _ _ => s.size - (intOf v3).toNat)
  case atStart => exact ⟨0, s.size + 1, 0, Nat.zero_le _, by omega, rfl, rfl, by decide, ⟨rfl⟩, ⟨Boxed.new _ _ _⟩, ⟨below_alloc (Below.refl _ _) _⟩⟩
  case round =>
    obtain ⟨i, k, st, hi, hk, rfl, rfl, hst, hE, hbx, hb⟩ := hrel
    by_cases hlt : i < s.size
    · obtain ⟨k, rfl⟩ : ∃ q, k = q + 1 := ⟨k - 1, by omega⟩
      obtain ⟨q, hq⟩ : ∃ q, nxt st (bt s i) = q := ⟨_, rfl⟩
      obtain ⟨nx, ok⟩ := q
      have HC := Aside0.mk (block_next.calls st (bt s i) nx ok wr (hG.below hb.out) (by rw [nxt_eq, hq]))
      rw [bt_get s i hlt] at HC
      have HQ := Aside0.mk hq
      clear hq
      gi_wp2
      refine ⟨trivial, ?_⟩
      refine (callsIn_wide.2 HC.out).mono ?_
      rintro e w1 ⟨rfl, b1⟩
      have B1 := Aside0.mk (hb.out.trans (b1.mono hb.out.size))
      have X1 := Aside0.mk (show Boxed w1 w.heap.size 23 (.slice none 0 0) from (b1.block _ hbx.out.lt).trans hbx.out)
      clear b1 HC hbx hb
      cases ok with
      | false =>
        have hcl := X1.out.cell
        have hfz := X1.out.frozen
        gi_wp2
        refine ⟨_, results_cell3 rfl _ _ _ ⟨w.heap.size, 0, none⟩ (.slice none 0 0) rfl (run_isAgg_plain Tryz.underlying23 rfl _) (X1.out.set _).cell, ?_⟩
        exact ⟨_, [], _, _, rfl, scanR_bad (hE.out.trans (scanP_bad k s i st nx hlt HQ.out)) (by decide), Kd.R_nil _ _ _ _ _, B1.out.setCell (p := ⟨w.heap.size, 0, none⟩) (Nat.le_refl _) _⟩
      | true =>
        by_cases h5 : nx = 5
        · subst h5
          have HP := Aside0.mk (hE.out.trans (scanP_done k s i st hlt HQ.out))
          clear hE HQ
          have HL := Aside0.mk (lines_calls (s.extract 0 (i + 1)) w1)
          gi_wp2
          refine ⟨trivial, ?_⟩
          refine (callsIn_wide.2 HL.out).mono ?_
          rintro e w2 ⟨rfl, rfl⟩
          clear HL
          gi_wp2
          have hs1 := extract0_size s (i + 1) (by omega)
          have HB2 := Aside0.mk (show Below w.heap.size w (w1.alloc (.cells #[.string (s.extract 0 (i + 1))] 9)) from below_alloc B1.out _)
          have hwx : w.heap.size < w1.heap.size := X1.out.lt
          obtain ⟨ls, hls⟩ : ∃ ls, linesOf (i + 1 + 1) (s.extract 0 (i + 1)) 0 = ls := ⟨_, rfl⟩
          have HLL := Aside0.mk (show ls.length ≤ i + 2 by rw [← hls]; exact linesOf_length _ _ _)
          have HLZ := Aside0.mk (show ∀ y ∈ ls, y.2.size ≤ i + 1 by rw [← hls]; intro y hy; have := linesOf_size _ _ _ y hy; rwa [hs1] at this)
          have HSR := Aside0.mk (show scanR s = (fieldsOf ls, ((i + 1 : Nat) : Int), 0) by rw [scanR_good HP.out (by omega), hls])
          have HSQ := Aside0.mk (lines_own (n - 1) (by omega) w1.heap.size (s.extract 0 (i + 1)) (by rw [hs1]; omega) w hG _ (Lies.below HB2.out) (Boxed.new w1 9 (.string (s.extract 0 (i + 1)))))
          rw [hs1, hls] at HSQ
          clear hls
          refine wpIn_range_own (F := Fence.wide) rfl rfl h1 (gf := 77) (lb := #[.pointer (some ⟨w1.heap.size, 0, none⟩)]) rfl trivial (enters_of Tryz.func77 (by kernel_rfl) rfl) HSQ.out (Below.refl _ _) (fun r h => h.elim)
            (by rintro r (h | rfl) <;> rw [World.size_alloc] <;> omega) (fun _ => rfl) none (fun q e => by cases e)
            (fun pre g W => ((∀ q, g = some q → w1.heap.size + 3 ≤ q) ∧ ∃ v, v.ownBlock = g ∧ Boxed W w.heap.size 23 v ∧ W.ownsRow w.heap.size 28 2 v (fieldsOf pre).length ((fieldsOf pre).flatMap encF)) ∧ (Below w.heap.size w W ∧ noNil pre))
            (fun c pre g W => ((∀ q, g = some q → w1.heap.size + 3 ≤ q) ∧ ∃ v, v.ownBlock = g ∧ Boxed W w.heap.size 23 v ∧ W.ownsRow w.heap.size 28 2 v (fieldsOf pre).length ((fieldsOf pre).flatMap encF)) ∧ (Below w.heap.size w W ∧ (c = .exit 2 ∧ hasNil pre)))
            (Abd.and (Abd.rowed (fun pre => (fieldsOf pre).length) (fun pre => (fieldsOf pre).flatMap encF) _ (by rw [World.size_alloc]; omega) (by rw [World.size_alloc]; omega) (fun h => h) (fun r h => h.elim)) (Abd.and (Abd.low (by rw [World.size_alloc]; omega) (Nat.le_refl _) (fun r h => h.elim)) (Abd.pure (β := List (Nat × ByteArray)) (fun pre _ => noNil pre))))
            (fun c => Abd.and (Abd.rowed (fun pre => (fieldsOf pre).length) (fun pre => (fieldsOf pre).flatMap encF) _ (by rw [World.size_alloc]; omega) (by rw [World.size_alloc]; omega) (fun h => h) (fun r h => h.elim)) (Abd.and (Abd.low (by rw [World.size_alloc]; omega) (Nat.le_refl _) (fun r h => h.elim)) (Abd.pure (β := List (Nat × ByteArray)) (fun pre _ => c = .exit 2 ∧ hasNil pre))))
            ⟨⟨(fun q e => by cases e), _, rfl, X1.out.alloc _, World.ownsRow_nil _ _ _ _⟩, HB2.out, fun y hy => absurd hy List.not_mem_nil⟩
            (fun pre g W q h e => .inr (by have := h.1.1 q e; rw [World.size_alloc]; omega)) (fun c pre g W q h e => .inr (by have := h.1.1 q e; rw [World.size_alloc]; omega))
            (fun x a' _ => a' = { tmps := #[Value.string s, undef, Value.pointer (some { block := w.heap.size, off := 0 }),
              Value.int IntKind.i64 (↑i + 1), u4, Value.int IntKind.i64 5, Value.int IntKind.i64 5, Value.bool true, undef,
              Value.string x.2, undef, undef, Value.int IntKind.i64 ↑i, Value.string s, Value.int IntKind.i64 ↑s.size, Value.bool true,
              Value.tuple #[Value.int IntKind.i64 5, Value.bool true], Value.int IntKind.i64 st, Value.string s,
              Value.int IntKind.i64 ↑i, Value.int IntKind.u8 ↑s[i].toNat,
              Value.tuple #[Value.int IntKind.i64 5, Value.bool true], Value.int IntKind.i64 5, Value.bool true,
              Value.bool true, Value.bool false, u26, Value.int IntKind.i64 ↑i, Value.int IntKind.i64 (↑i + 1),
              Value.int IntKind.i64 5, Value.int IntKind.i64 5, Value.bool true, Value.int IntKind.i64 5, Value.bool false,
              undef, Value.string s, Value.int IntKind.i64 (↑i + 1), Value.string (s.extract 0 (i + 1)),
              Value.func (Fn.func 77) #[] #[Value.pointer (some { block := w1.heap.size, off := 0 })], Value.int IntKind.i64 ((x.1 : Nat) : Int), Value.string x.2, undef,
              undef, undef, undef, undef, undef, undef, undef, undef, undef, undef, undef, undef], defers := [] })
            (fun x a' _ _ _ _ _ h _ _ => h) ?assign ?body ?done ?stop
          case assign =>
            intro l pre x g W K hI hK
            dsimp only [encL]
            gi_wp2
            exact hK _ _ (Spares.refl _ _ _) hI rfl
          case body =>
            rintro l pre ⟨at', ln⟩ g a' W hW2 ⟨⟨hgq, v, rfl, hbw, hrow⟩, hBW, hne⟩ rfl hsp
            have hmem : ((at', ln) : Nat × ByteArray) ∈ ls := hsp.subset (List.mem_append_right _ List.mem_cons_self)
            have hlz : ln.size ≤ i + 1 := HLZ.out _ hmem
            have hpl : (fieldsOf pre).length + 1 ≤ i + 2 := by
              have h1 := hsp.length_le
              have h2 := HLL.out
              have h3 := fieldsOf_length pre
              rw [List.length_append, List.length_singleton] at h1
              omega
            have HF := Aside0.mk (fieldsOf_snoc pre (at', ln) hne)
            have HGQ := Aside0.mk hgq
            have HROW := Aside0.mk hrow
            have HBW := Aside0.mk hBW
            have HNE := Aside0.mk hne
            have HBX := Aside0.mk hbw
            rw [World.size_alloc] at hW2
            clear hgq hrow hBW hne hbw hsp hmem
            by_cases h0 : ln.size = 0
            · obtain rfl : ln = ⟨#[]⟩ := ByteArray.ext (Array.eq_empty_of_size_eq_zero h0)
              gi_wp2
              refine ⟨_, Spares.refl _ _ _, ⟨HGQ.out, v, rfl, HBX.out, ?_⟩, HBW.out, rfl, (show hasNil _ from ⟨(at', ⟨#[]⟩), List.mem_append_right _ List.mem_cons_self, rfl⟩)⟩
              rw [HF.out, if_pos h0, List.append_nil]
              exact HROW.out
            · obtain ⟨r3, hr3⟩ : ∃ r3 : Int, (if lineB ln = true then (0 : Int) else 2) = r3 := ⟨_, rfl⟩
              have HC := Aside0.mk (field_Parse.calls ln (parseF ln) (parseV ln) r3 W (hG.below HBW.out) (by rw [field_Parse_eq ln (by omega), hr3]))
              clear hr3
              have hne1 : (ln.toList == ([] : List UInt8)) = false := by
                rw [ByteArray.toList_eq, beq_eq_false_iff_ne]
                intro e
                apply h0
                rw [size_eq_length, e]; rfl
              have hne2 : (ln.toList = ([] : List UInt8)) = False := by simpa using hne1
              have hne3 : (ln = (⟨#[]⟩ : ByteArray)) = False := by
                refine eq_false ?_
                rintro rfl
                exact h0 rfl
              rw [if_neg h0] at HF
              gi_wp2
              refine ⟨trivial, (fun _ => by omega), ?_⟩
              refine (CallsIn.inRound l (callsIn_wide.2 HC.out)).mono ?_
              rintro e w2 ⟨rfl, b2⟩
              have HB2 := Aside0.mk b2
              have HX2 := Aside0.mk (show Boxed w2 w.heap.size 23 v from (b2.block _ HBX.out.lt).trans HBX.out)
              have HR2 := Aside0.mk (show w2.ownsRow w.heap.size 28 2 v (fieldsOf pre).length ((fieldsOf pre).flatMap encF) from own_move HROW.out (fun k hk => b2.block k (own_lt HROW.out k hk)))
              have hcl2 := (HX2.out.alloc (.cells #[.string (parseF ln), .string (parseV ln)] 28)).cell
              clear b2 HC HROW HBX
              gi_wp2_with (gi_at_builtin; refine halt ?_)
              refine unhalt ?_
              refine in_append w.heap.size rfl _ _ 23 28 (.agg #[(.string ⟨#[]⟩), (.string ⟨#[]⟩)]) 2 32 rfl Tryz.underlying23 info28 rfl (by decide) (by omega) v (fieldsOf pre).length ((fieldsOf pre).flatMap encF) [.string (parseF ln), .string (parseV ln)] rfl ?hx rfl ?one (HR2.out.alloc _) ?base ?lim ?_
              case hx => rw [World.size_alloc]; rfl
              case one =>
                intro u hu
                rcases List.mem_cons.1 hu with rfl | hu
                · rfl
                · rcases List.mem_singleton.1 hu with rfl
                  rfl
              case base =>
                rw [World.size_alloc]
                have := HBW.out.size
                have := HB2.out.size
                omega
              case lim => omega
              intro v1 w3 ho3 hg3 hat3
              obtain ⟨g', cap', rfl⟩ := ownsRow_succ ho3
              obtain ⟨hv1, hv2, hr2, hk2, hb2⟩ := collected (K := fun k => (w1.alloc (.cells #[.string (s.extract 0 (i + 1))] 9)).heap.size ≤ k ∨ (k < w.heap.size ∨ k = w1.heap.size)) (HX2.out.alloc _) (by decide) (HR2.out.alloc _) (by rw [World.size_alloc]; omega) (Nat.le_refl _) ho3 hg3 hat3
              have hc1 := hv1.cell
              have hf1 := hv1.frozen
              have HV2 := Aside0.mk hv2
              have HRR := Aside0.mk hr2
              have HK2 := Aside0.mk hk2
              have HB3 := Aside0.mk hb2
              clear hv1 hv2 hr2 hk2 hb2 ho3 hg3 hat3
              gi_wp2
              refine ⟨_, ((Spares.below HB2.out).trans (Spares.below (below_alloc (Below.refl _ _) _))).trans HK2.out, ⟨HK2.out.ge (n := w1.heap.size + 3) (by rw [World.size_alloc]; have := HB2.out.size; omega) HGQ.out, _, rfl, HV2.out, ?_⟩, (below_alloc (HBW.out.trans (HB2.out.mono HBW.out.size)) _).trans HB3.out, noNil_snoc HNE.out h0⟩
              rw [HF.out, List.length_append, List.flatMap_append]
              exact HRR.out
          case done =>
            rintro D ys g W hD rfl ⟨⟨hgq, v, rfl, hbw, hrow⟩, hBW, hne⟩ hK
            obtain ⟨a0, n0, c0, hv0⟩ := owns_slice hrow
            subst hv0
            rw [World.size_alloc] at hD
            obtain ⟨q1, q2, q3, q4⟩ := closed hbw (by decide) hrow (Nat.le_refl _) (by omega) hK
            have Q1 := Aside0.mk q1
            have Q2 := Aside0.mk q2
            have Q3 := Aside0.mk q3
            have Q4 := Aside0.mk (hBW.trans q4)
            have hcl := hbw.cell
            have hfz := hbw.frozen
            clear q1 q2 q3 q4 hrow hBW hbw hK hgq
            gi_wp2
            refine ⟨by simp, .inl ⟨_, _, rfl, run_takeDeferred Q1.out, ?_⟩⟩
            refine ⟨_, results_cell3 rfl _ _ _ ⟨w.heap.size, 0, none⟩ (.slice a0 n0 c0) rfl (run_isAgg_plain Tryz.underlying23 rfl _) Q2.out.cell, ?_⟩
            exact ⟨_, fieldsOf ys, _, _, rfl, HSR.out, row_of_owns k28 encF (fun _ => rfl) (fun _ x => k28_mkM _ _ _ x) Q3.out, Q4.out⟩
          case stop =>
            rintro D c pre g W hD hsp ⟨⟨hgq, v, rfl, hbw, hrow⟩, hBW, rfl, hz⟩ hK
            have HSS := Aside0.mk (show scanR s = (fieldsOf pre, ((i + 1 : Nat) : Int), 0) by
              obtain ⟨r, hr⟩ := hsp
              rw [HSR.out, ← hr, fieldsOf_prefix pre r hz])
            clear hsp hz
            obtain ⟨a0, n0, c0, hv0⟩ := owns_slice hrow
            subst hv0
            rw [World.size_alloc] at hD
            obtain ⟨q1, q2, q3, q4⟩ := closed hbw (by decide) hrow (Nat.le_refl _) (by omega) hK
            have Q1 := Aside0.mk q1
            have Q2 := Aside0.mk q2
            have Q3 := Aside0.mk q3
            have Q4 := Aside0.mk (hBW.trans q4)
            have hcl := hbw.cell
            have hfz := hbw.frozen
            clear q1 q2 q3 q4 hrow hBW hbw hK hgq
            gi_wp2
            refine ⟨by simp, .inl ⟨_, _, rfl, run_takeDeferred Q1.out, ?_⟩⟩
            refine ⟨_, results_cell3 rfl _ _ _ ⟨w.heap.size, 0, none⟩ (.slice a0 n0 c0) rfl (run_isAgg_plain Tryz.underlying23 rfl _) Q2.out.cell, ?_⟩
            exact ⟨_, fieldsOf pre, _, _, rfl, HSS.out, row_of_owns k28 encF (fun _ => rfl) (fun _ x => k28_mkM _ _ _ x) Q3.out, Q4.out⟩
        · have HP := Aside0.mk (hE.out.trans (scanP_on k s i st nx hlt HQ.out h5))
          clear hE HQ
          gi_wp2
          go_roundw
          case rel => exact ⟨i + 1, k, nx, by omega, by omega, congrArg (Value.int IntKind.i64) (by omega), rfl, h5, HP, X1, B1⟩
          case measure => simp [intOf]; omega
    · have hie : i = s.size := by omega
      subst hie
      have HP := Aside0.mk (hE.out.trans (scanP_end k s st))
      have hcl := hbx.out.cell
      have hfz := hbx.out.frozen
      clear hE
      gi_wp2
      refine ⟨_, results_cell3 rfl _ _ _ ⟨w.heap.size, 0, none⟩ (.slice none 0 0) rfl (run_isAgg_plain Tryz.underlying23 rfl _) (hbx.out.set _).cell, ?_⟩
      exact ⟨_, [], _, _, rfl, scanR_bad HP.out (by decide), Kd.R_nil _ _ _ _ _, hb.out.setCell (p := ⟨w.heap.size, 0, none⟩) (Nat.le_refl _) _⟩
def block_Scan.f (a0 : ByteArray) : Option ((List S28) × Int × Int) := if a0.size < 4000000000 then some (scanR a0) else none
theorem block_Scan.calls (a0 : ByteArray) (r1 : List S28) (r2 : Int) (r3 : Int) (w : World) (hG : TabOk w) (h : block_Scan.f a0 = some (r1, r2, r3)) :
    Calls Tryz.prog 51 #[.string a0] w fun e w' => ∃ v0_ : Value, e = .returned (.tuple #[v0_, .int .i64 r2, .int .i64 r3]) ∧ Kd.R k28 28 w' w.heap.size (fun _ => True) v0_ r1 ∧ Below w.heap.size w w' := by
  unfold block_Scan.f at h
  split at h
  · rename_i hs
    injection h with h
    refine (callsIn_wide.1 (scan_in 4 (Nat.le_refl _) a0 hs w hG)).mono ?_
    rintro e w' ⟨v, l, i, er, rfl, hr, hR, hb⟩
    rw [h] at hr
    cases hr
    exact ⟨v, rfl, hR, hb⟩
  · cases h
end Go.Proofs.YtmmbpbgcobmifaaGreatDoorH
end
section
namespace Go.Proofs.YtmmbpbgcobmifaaGreatDoor.Pr
open Go.RowKit Go.Proofs.YtmmbpbgcobmifaaGreatDoorH Go.Proofs.YtmmbpbgcobmifaaGreatDoorW.PrintWords Go.Proofs.YtmmbpbgcobmifaaGreatDoorW.PrintLast Go.Proofs.YtmmbpbgcobmifaaGreatDoorW.PrintMore
attribute [local go_sem] max2_int min2_int max_two min_two max_three min_three max_four min_four   -- for this text's walks alone
set_option linter.unusedVariables false
set_option linter.unusedSimpArgs false
def field_Put.f (a0_0 : ByteArray) (a0_1 : ByteArray) : Option (ByteArray × Int) := (field_Right.f a0_0 a0_1).bind fun t289 => (if t289 = true then (if a0_1.toList = ([] : List UInt8) then (if a0_0.size + 1 ≤ 9223372036854775807 then (some (a0_0 ++ (⟨#[58]⟩ : ByteArray), 0)) else (none)) else (if a0_0.size + 2 ≤ 9223372036854775807 then (if (a0_0 ++ (⟨#[58, 32]⟩ : ByteArray)).size + a0_1.size ≤ 9223372036854775807 then (some ((a0_0 ++ (⟨#[58, 32]⟩ : ByteArray)) ++ a0_1, 0)) else (none)) else (none))) else (some ((⟨#[]⟩ : ByteArray), 1)))
end Go.Proofs.YtmmbpbgcobmifaaGreatDoor.Pr
end
section
namespace Go.Proofs.YtmmbpbgcobmifaaGreatDoor.Pr
end Go.Proofs.YtmmbpbgcobmifaaGreatDoor.Pr
namespace Go.Proofs.YtmmbpbgcobmifaaGreatDoorH
open Go.RowKit Go.Proofs.YtmmbpbgcobmifaaGreatDoorW.PrintWords Go.Proofs.YtmmbpbgcobmifaaGreatDoorW.PrintLast Go.Proofs.YtmmbpbgcobmifaaGreatDoorW.PrintMore Go.Proofs.YtmmbpbgcobmifaaGreatDoor.Pr
def putS (a b : ByteArray) : ByteArray := if b.size = 0 then a ++ (⟨#[58]⟩ : ByteArray) else (a ++ (⟨#[58, 32]⟩ : ByteArray)) ++ b
end Go.Proofs.YtmmbpbgcobmifaaGreatDoorH
end
section
namespace Go.Proofs.YtmmbpbgcobmifaaGreatDoor.Pr
open Go.RowKit Go.Proofs.YtmmbpbgcobmifaaGreatDoorH Go.Proofs.YtmmbpbgcobmifaaGreatDoorW.PrintWords Go.Proofs.YtmmbpbgcobmifaaGreatDoorW.PrintLast Go.Proofs.YtmmbpbgcobmifaaGreatDoorW.PrintMore
attribute [local go_sem] max2_int min2_int max_two min_two max_three min_three max_four min_four   -- for this text's walks alone
set_option linter.unusedVariables false
set_option linter.unusedSimpArgs false
def catchpitref05_Great.l0 : Nat → List (S28) → Int → Int → Option (Bool)
  | 0, _, _, _ => none
  | k + 1, x0, x3, x4 => if x4 < (x0.length : Int) then (if x3 ≤ 2000 then (if 0 ≤ x4 then (catchpitref05_Great.l0 k x0 (wrap64 ((wrap64 ((wrap64 (x3 + (((rd_T28 x0 x4).f0).size : Int))) + (((rd_T28 x0 x4).f1).size : Int))) + 1)) (wrap64 (x4 + 1))) else (none)) else (some (decide (x3 > 2000)))) else (some (decide (x3 > 2000)))
def catchpitref05_Great.f (k : Nat) (l0 : List (S28)) : Option (Bool) := catchpitref05_Great.l0 k l0 0 0
theorem catchpitref05_Great.mono_l : ∀ k, (∀ y0 y1 y2, LeO (catchpitref05_Great.l0 k y0 y1 y2) (catchpitref05_Great.l0 (k + 1) y0 y1 y2))
  | 0 => fun _ _ _ r h => by simp [catchpitref05_Great.l0] at h
  | k + 1 => by
    have ih0 := catchpitref05_Great.mono_l k
    · intro y0 y1 y2
      unfold catchpitref05_Great.l0
      repeat' first
      | (with_reducible exact ih0 _ _ _)
      | (with_reducible exact LeO.refl _)
      | (with_reducible exact LeO.none _)
      | (with_reducible refine LeO.ite ?_ ?_)
      | (with_reducible refine LeO.bind ?_ (fun _ => ?_))
      | exact ih0 _ _ _
      | exact LeO.none _
      | refine LeO.ite ?_ ?_
      | refine LeO.bind ?_ (fun _ => ?_)
theorem catchpitref05_Great.mono : ∀ a0 k, LeO (catchpitref05_Great.f k a0) (catchpitref05_Great.f (k + 1) a0) := by
  intro a0 k
  have ih0 := catchpitref05_Great.mono_l k
  unfold catchpitref05_Great.f
  repeat' first
      | (with_reducible exact ih0 _ _ _)
      | (with_reducible exact LeO.refl _)
      | (with_reducible exact LeO.none _)
      | (with_reducible refine LeO.ite ?_ ?_)
      | (with_reducible refine LeO.bind ?_ (fun _ => ?_))
      | exact ih0 _ _ _
      | exact LeO.none _
      | refine LeO.ite ?_ ?_
      | refine LeO.bind ?_ (fun _ => ?_)
end Go.Proofs.YtmmbpbgcobmifaaGreatDoor.Pr
end
section
namespace Go.Proofs.YtmmbpbgcobmifaaGreatDoor.Pr
open Go.RowKit Go.Proofs.YtmmbpbgcobmifaaGreatDoorH Go.Proofs.YtmmbpbgcobmifaaGreatDoorW.PrintWords Go.Proofs.YtmmbpbgcobmifaaGreatDoorW.PrintLast Go.Proofs.YtmmbpbgcobmifaaGreatDoorW.PrintMore
attribute [local go_sem] max2_int min2_int max_two min_two max_three min_three max_four min_four   -- for this text's walks alone
set_option linter.unusedVariables false
set_option linter.unusedSimpArgs false
theorem eqA28 (d : Nat) (w : World) (x0 y0 : ByteArray) (x1 y1 : ByteArray) :
    (Op.equalIn (d + 2) 28 (.agg #[.string x0, .string x1]) (.agg #[.string y0, .string y1])).run Tryz.prog w = .ok (x0.toList == y0.toList && (x1.toList == y1.toList)) w := by
  refine eqA_of Tryz.underlying28 (by kernel_rfl) ?_
  refine eqf_cons (by rfl) (by go_simp; rfl) (by go_simp; rfl) (by go_simp) ?_
  exact eqf_last (by rfl) (by go_simp; rfl) (by go_simp; rfl) (by go_simp)
end Go.Proofs.YtmmbpbgcobmifaaGreatDoor.Pr
end
section
namespace Go.Proofs.YtmmbpbgcobmifaaGreatDoor.Pr
open Go.RowKit Go.Proofs.YtmmbpbgcobmifaaGreatDoorH Go.Proofs.YtmmbpbgcobmifaaGreatDoorW.PrintWords Go.Proofs.YtmmbpbgcobmifaaGreatDoorW.PrintLast Go.Proofs.YtmmbpbgcobmifaaGreatDoorW.PrintMore
attribute [local go_sem] max2_int min2_int max_two min_two max_three min_three max_four min_four   -- for this text's walks alone
set_option linter.unusedVariables false
set_option linter.unusedSimpArgs false
attribute [local go_sem high] eqA28
def catchpitref05_Fields.l0 : Nat → List (S28) → List (S28) → Int → Option (Bool)
  | 0, _, _, _ => none
  | k + 1, x0, x1, x5 => if x5 < (x0.length : Int) then (if 0 ≤ x5 then (if x5 < (x1.length : Int) then (if (!((((rd_T28 x0 x5).f0).toList) == (((rd_T28 x1 x5).f0).toList)) || (!((((rd_T28 x0 x5).f1).toList) == (((rd_T28 x1 x5).f1).toList)))) = true then (some false) else (catchpitref05_Fields.l0 k x0 x1 (wrap64 (x5 + 1)))) else (none)) else (none)) else (some true)
def catchpitref05_Fields.f (k : Nat) (l0 : List (S28)) (l1 : List (S28)) : Option (Bool) := if (l0.length : Int) = (l1.length : Int) then (catchpitref05_Fields.l0 k l0 l1 0) else (some false)
theorem catchpitref05_Fields.mono_l : ∀ k, (∀ y0 y1 y2, LeO (catchpitref05_Fields.l0 k y0 y1 y2) (catchpitref05_Fields.l0 (k + 1) y0 y1 y2))
  | 0 => fun _ _ _ r h => by simp [catchpitref05_Fields.l0] at h
  | k + 1 => by
    have ih0 := catchpitref05_Fields.mono_l k
    · intro y0 y1 y2
      unfold catchpitref05_Fields.l0
      repeat' first
      | (with_reducible exact ih0 _ _ _)
      | (with_reducible exact LeO.refl _)
      | (with_reducible exact LeO.none _)
      | (with_reducible refine LeO.ite ?_ ?_)
      | (with_reducible refine LeO.bind ?_ (fun _ => ?_))
      | exact ih0 _ _ _
      | exact LeO.none _
      | refine LeO.ite ?_ ?_
      | refine LeO.bind ?_ (fun _ => ?_)
theorem catchpitref05_Fields.mono : ∀ a0 a1 k, LeO (catchpitref05_Fields.f k a0 a1) (catchpitref05_Fields.f (k + 1) a0 a1) := by
  intro a0 a1 k
  have ih0 := catchpitref05_Fields.mono_l k
  unfold catchpitref05_Fields.f
  repeat' first
      | (with_reducible exact ih0 _ _ _)
      | (with_reducible exact LeO.refl _)
      | (with_reducible exact LeO.none _)
      | (with_reducible refine LeO.ite ?_ ?_)
      | (with_reducible refine LeO.bind ?_ (fun _ => ?_))
      | exact ih0 _ _ _
      | exact LeO.none _
      | refine LeO.ite ?_ ?_
      | refine LeO.bind ?_ (fun _ => ?_)
end Go.Proofs.YtmmbpbgcobmifaaGreatDoor.Pr
end
section
namespace Go.Proofs.YtmmbpbgcobmifaaGreatDoor.Pr
open Go.RowKit Go.Proofs.YtmmbpbgcobmifaaGreatDoorH Go.Proofs.YtmmbpbgcobmifaaGreatDoorW.PrintWords Go.Proofs.YtmmbpbgcobmifaaGreatDoorW.PrintLast Go.Proofs.YtmmbpbgcobmifaaGreatDoorW.PrintMore
attribute [local go_sem] max2_int min2_int max_two min_two max_three min_three max_four min_four   -- for this text's walks alone
set_option linter.unusedVariables false
set_option linter.unusedSimpArgs false
def octet_Alike.f (a0 : ByteArray) (a1 : ByteArray) : Option (Bool) := (octet_Small.f a0).bind fun t150 => ((octet_Small.f a1).bind fun t151 => (some (t150.toList == t151.toList)))
def field_Is.f (a0_0 : ByteArray) (a0_1 : ByteArray) (a1 : ByteArray) : Option (Bool) := (octet_Alike.f a0_0 a1).bind fun t153 => (some t153)
end Go.Proofs.YtmmbpbgcobmifaaGreatDoor.Pr
end
section
namespace Go.Proofs.YtmmbpbgcobmifaaGreatDoor.Pr
end Go.Proofs.YtmmbpbgcobmifaaGreatDoor.Pr
namespace Go.Proofs.YtmmbpbgcobmifaaGreatDoorH
open Go.RowKit Go.Proofs.YtmmbpbgcobmifaaGreatDoorW.PrintWords Go.Proofs.YtmmbpbgcobmifaaGreatDoorW.PrintLast Go.Proofs.YtmmbpbgcobmifaaGreatDoorW.PrintMore Go.Proofs.YtmmbpbgcobmifaaGreatDoor.Pr
def linesL : List Fld → List UInt8
  | [] => []
  | x :: l => (putS x.f0 x.f1).data.toList ++ ([13, 10] ++ linesL l)
def allRight (l : List Fld) : Bool := l.all fun x => rightB x.f0 x.f1
def sectL (l : List Fld) : ByteArray := ⟨(linesL l ++ [13, 10]).toArray⟩
def putR (l : List Fld) : ByteArray × Int := if allRight l then (sectL l, 0) else (⟨#[]⟩, 1)
def block_Put.f (l0 : List Fld) : Option (ByteArray × Int) := if (l0.all fun x => decide (x.f0.size ≤ 140737488351232 ∧ x.f1.size ≤ 140737488351232)) && decide (sumF l0 ≤ 1000000) then some (putR l0) else none
end Go.Proofs.YtmmbpbgcobmifaaGreatDoorH
end
section
namespace Go.Proofs.YtmmbpbgcobmifaaGreatDoorH
open Go
variable {H : Type} {enc : TypeId × Value → H}
theorem returns_and_shaped {a : Assume} {C : Checked} {os : Os} {f : FuncId} {fn : Func} {s : ChangeSpec} {conds : List PathCond} {apart fresh handsOn again : Bool} {X : World → Array Value → Prop}
    (hX : ∀ (w w' : World) (args : Array Value), w.heap = w'.heap → X w args → X w' args)
    (own : ownKnob C.prog.godebug = none) (started : os.Started) (noInit : C.prog.inits.idxOf? f = none) (hfn : C.prog.funcs[f]? = some fn)
    (witness : ∃ (w : World) (tape : Tape) (i : Input), w.os = os ∧ (w.forCall tape i).Shaped C.prog ∧ i.vars = [] ∧ Input.okWide C.prog (w.forCall tape i) .any w.heap.size f i ∧
      ((s.pre enc C.prog fn conds apart (w.forCall tape i).memory i.args ∧ X (w.forCall tape i).memory i.args) ∧ sizedMet enc C.prog fn (OpenSpec.ofChange s) apart (w.forCall tape i).memory i.args) ∧ a.holds C.prog (lone (Frame.enter C.prog f i.args .normal) [] (w.forCall tape i)))
    (contract : ∀ (W : World) (base : Nat) (args : Array Value) (ds gs : List (DataW H)) (before : List MemPlace),
      (∀ (j : Nat) t v, fn.params[j]? = some t → args[j]? = some v → Value.okWide C.prog W .any base t v) →
      DataW.Whole enc C.prog fn.params.toList s.vars apart W args.toList ds gs before →
      conds.all (PathCond.test C.prog ⟨fn.params.toList, ds, s.plain.varTypes C.prog, gs⟩) = true →
      (DataW.weightsEach C.prog (fn.params.toList ++ s.plain.varTypes C.prog) (ds ++ gs)).all (· ≤ reachBytes) = true → X W args →
      W.ShapedOpen C.prog →
      a.holds C.prog (lone (Frame.enter C.prog f args .normal) [] W) →
      Calls C.prog f args W fun e W' => ∃ v, e = .returned v ∧ s.post enc C.prog fn apart fresh handsOn again W args v W') :
    ReturnsInHanded a C os f .any (fun w args => (s.pre enc C.prog fn conds apart w args ∧ X w args) ∧ sizedMet enc C.prog fn (OpenSpec.ofChange s) apart w args) (s.post enc C.prog fn apart fresh handsOn again) := by
  refine returnsInHanded_of_calls own started noInit witness ?_
  intro w tape i _ hsh _ hok hpre hholds
  obtain ⟨_, _, _, fn', hfn', _, _, _, _, hval⟩ := hok
  have e : fn' = fn := Option.some.inj (hfn'.symm.trans hfn)
  subst e
  obtain ⟨⟨⟨ds, gs, before, hw, hc⟩, hx⟩, hz⟩ := hpre
  have hw' := DataW.Whole.of_heap (w' := w.forCall tape i) (by rfl) hw
  refine (contract (w.forCall tape i) w.heap.size i.args ds gs before hval hw' hc (hz.weights hw) (hX _ _ _ (by rfl) hx) hsh hholds).mono fun e W' ⟨v, he, hp⟩ => ?_
  subst he
  exact ChangeSpec.post_blind hp
end Go.Proofs.YtmmbpbgcobmifaaGreatDoorH
end
section
namespace Go.Proofs.YtmmbpbgcobmifaaGreatDoorH
open Go
theorem take_d {l tl : List Oper} {i : Nat} {o : Oper} (h : l.drop i = o :: tl) : l.toArray[i]? = some o := by
  have h2 : (l.drop i)[0]? = some o := by rw [h]; rfl
  rw [List.getElem?_drop] at h2
  simpa using h2
theorem take_at {P : Program} {ops : Array Oper} {Q : Exit → Act → World → Prop} {md : Region.Mode} {S : World → Prop} {i : Nat} {oi : Oper} {fuel : Nat} {listed : Array Bool} {a : Act} {w : World} (hi : ops[i]? = some oi)
    (h : ops[i]? = some oi → wpAnyH P md ops Q S fuel listed a w) : wpAnyH P md ops Q S fuel listed a w := h hi
theorem wpAnyH_skip {P : Program} {ops : Array Oper} {Q : Exit → Act → World → Prop} {md : Region.Mode} {S : World → Prop} {i : Nat} {oi : Oper} {fuel : Nat} {listed : Array Bool} {a : Act} {w : World} (hi : ops[i]? = some oi)
    (hs : Region.noSelect ops = true) (hf : Region.free md ops listed i = true) (hr : (Region.ready md ops listed).contains i = true)
    (hQ : ∀ c a w, Q (.panic c) (a.put oi.dst undef) w → Q (.panic c) a w) (hw : Region.wanted oi (yielded ops a.tmps) = false) (hS : S w)
    (h : wpAnyH P md ops Q S fuel (listed.setIfInBounds i true) (a.put oi.dst undef) w) : wpAnyH P md ops Q S (fuel + 1) listed a w :=
  wpAnyH_take hi hs hf hr hQ (Or.inr ⟨hw, rfl⟩) hS h
end Go.Proofs.YtmmbpbgcobmifaaGreatDoorH
end
section
namespace Go.Proofs.YtmmbpbgcobmifaaGreatDoorH
open Go Go.RowKit Go.Proofs.YtmmbpbgcobmifaaGreatDoorW.PrintWords Go.Proofs.YtmmbpbgcobmifaaGreatDoorW.PrintLast Go.Proofs.YtmmbpbgcobmifaaGreatDoorW.PrintMore
def RowD (W : World) (base : Nat) (v : Value) (l : List Int) : Prop := W.ownsRow base 5 1 v l.length (l.map (Value.int .u8))
theorem RowD.zero (W : World) (base : Nat) : RowD W base (.slice none 0 0) [] := own_nil W base _ 1
theorem RowD.move {W W1 : World} {base : Nat} {v : Value} {l : List Int} (h : RowD W base v l) (hm : ∀ k, v.ownBlock = some k → W1.heap[k]? = W.heap[k]?) : RowD W1 base v l := own_move h hm
theorem RowD.at {W : World} {base : Nat} {v : Value} {l : List Int} (h : RowD W base v l) (k : Nat) (hk : v.ownBlock = some k) : base ≤ k ∧ ∃ cs, W.heap[k]? = some (.cells cs 5 (0, 0)) := by
  rcases h.2 with ⟨rfl, _⟩ | ⟨g, cap, cur, rfl, hb, hh, _⟩
  · simp [Value.ownBlock] at hk
  · have : g = k := by simpa [Value.ownBlock] using hk
    subst this
    exact ⟨hb, _, hh⟩
theorem RowD.only {W W1 : World} {base b : Nat} {v : Value} {l : List Int} (h : RowD W base v l) (ho : Only b W W1) (hne : v.ownBlock ≠ some b) : RowD W1 base v l := h.move fun k hk => by
  obtain ⟨_, cs, hc⟩ := h.at k hk
  rw [hc]
  exact ho.blk hc (fun e => hne (e ▸ hk))
theorem flat_one : ∀ l : List Int, (l.flatMap fun x => [Value.int .u8 x]) = l.map (Value.int .u8)
  | [] => rfl
  | x :: l => by
    rw [List.flatMap_cons, flat_one l]
    rfl
theorem RowD.reads {W : World} {base : Nat} {v : Value} {l : List Int} (h : RowD W base v l) : ∃ A c, v = .slice A l.length c ∧ l.length ≤ c ∧ Kd.C (Kd.int .u8) W A l.length l := by
  have h1 : W.ownsRow base 5 (Kd.int .u8).sz v l.length (l.flatMap fun x => [Value.int .u8 x]) := by
    rw [flat_one]
    exact h
  exact Kd.R_reads (row_of_owns (Kd.int .u8) (fun x => [Value.int .u8 x]) (fun _ => rfl) (fun _ _ => rfl) h1)
theorem wp_plusB {P : Program} {o : Oper} {a : Act} {K : Act → World → Prop} {Q : Exit → Act → World → Prop} {W W0 : World} (base : Nat) (s x : Operand) (t : TypeId) (z : Value)
    (ho : o.op = .call { callee := .builtin .append, args := #[s, x], argTypes := #[t, t] })
    (ht : P.underlying t = some (.slice 5)) (hinfo : (P.info? 5).map (fun i => (i.zero, i.size, i.bytes)) = some (some z, 1, 1)) (hz : z.cells.size = 1)
    (v : Value) (pre l : List Int) (A : Option Addr) (c : Nat) (hs : a.eval s = v) (hx : a.eval x = .slice A l.length c) (HO : RowD W base v pre) (HC : Kd.C (Kd.int .u8) W A l.length l) (HB : Below base W0 W) (hbase : base ≤ W.heap.size)
    (hl : pre.length + l.length ≤ 140737488355328)
    (h : ∀ v1 w1, RowD w1 base v1 (pre ++ l) → Below base W0 w1 → W.heap.size ≤ w1.heap.size → (∀ b ob, W.heap[b]? = some ob → some b ≠ v.ownBlock → w1.heap[b]? = some ob) → K (a.put o.dst v1) w1) : o.wp P a W K Q := by
  obtain ⟨i0, hi, hzz⟩ := Option.map_eq_some_iff.1 hinfo
  simp only [Prod.mk.injEq] at hzz
  obtain ⟨hz0, hz1, hz2⟩ := hzz
  have hrow : ∀ k, v.ownBlock = some k → base ≤ k := own_base HO
  unfold Oper.wp
  simp only [execOp, ho, resolve, invoke, builtin, Sem.run_bind, Sem.run_pure, Result.andThen_ok, List.map_toArray, List.map_cons, List.map_nil, hs, hx]
  cases A with
  | some ad =>
    obtain ⟨v1, w1, hr, hown, hg, _, _⟩ := run_append_own_at (P := P) W base t o.type 5 i0 z 1 1 ht hi hz0 hz1 hz2 hz (by decide) v pre.length _ HO ad l.length c (l.map (Value.int .u8)) (by rw [List.length_map]; omega)
      (fun j u hu => by
        rw [List.getElem?_map] at hu
        obtain ⟨y, hy, rfl⟩ := Option.map_eq_some_iff.1 hu
        obtain ⟨ad', e, hc⟩ := HC.2.2 (by have := (List.getElem?_eq_some_iff.1 hy).1; omega)
        cases e
        obtain ⟨cs, _, hK, hcs⟩ := hc j y hy
        have hK : cs = [.int .u8 y] := hK
        have := hcs 0 (.int .u8 y) (by rw [hK]; rfl)
        rwa [show j * (Kd.int .u8).sz + 0 = j by show j * 1 + 0 = j; omega] at this)
      (fun u hu => by
        obtain ⟨p, _, rfl⟩ := List.mem_map.1 hu
        rfl) (by simp only [maxLen]; omega) (by omega) hbase
    rw [hr]
    refine h v1 w1 ?_ (HB.grown hg hbase hrow) hg.size (fun b ob hb hne => (hg.block b (blk_lt hb) hne).trans hb)
    unfold RowD
    rw [List.length_append, List.map_append]
    exact hown
  | none =>
    have hn : l = [] := by
      rcases l with _ | ⟨y, l⟩
      · rfl
      · obtain ⟨_, e, _⟩ := HC.2.2 (Nat.succ_pos _)
        cases e
    subst hn
    have hv : (Builtin.append_ #[t, t] o.type #[v, .slice none 0 c]).run P W = .ok v W := by
      rcases HO.2 with ⟨rfl, hp⟩ | ⟨g, cap, cur, rfl, _, hg, hnc, _⟩
      · simp [Builtin.append_, run_underlying ht, sizeOf, typeInfo, hi, Builtin.lenOf, Builtin.firstCells]
      · simp [Builtin.append_, run_underlying ht, sizeOf, typeInfo, hi, Builtin.lenOf, Builtin.firstCells, hnc, storeCells]
    rw [show ([] : List Int).length = 0 from rfl, hv]
    exact h v W (by rw [List.append_nil]; exact HO) HB (Nat.le_refl _) (fun _ _ hb _ => hb)
end Go.Proofs.YtmmbpbgcobmifaaGreatDoorH
end
section
namespace Go.Proofs.YtmmbpbgcobmifaaGreatDoorH
set_option linter.unusedVariables false
set_option linter.unusedSimpArgs false
open Go Go.RowKit Go.Proofs.YtmmbpbgcobmifaaGreatDoorW.PrintWords Go.Proofs.YtmmbpbgcobmifaaGreatDoorW.PrintLast Go.Proofs.YtmmbpbgcobmifaaGreatDoorW.PrintMore
theorem list_plusD {P : Program} {ops : Array Oper} {rest : List Oper} {o : Oper} {a : Act} {Q : Exit → Act → World → Prop} {W : World} (base : Nat) (hgd : o.guard = none) (s x : Operand) (t : TypeId) (z : Value)
    (ho : o.op = .call { callee := .builtin .append, args := #[s, x], argTypes := #[t, t] })
    (ht : P.underlying t = some (.slice 5)) (hinfo : (P.info? 5).map (fun i => (i.zero, i.size, i.bytes)) = some (some z, 1, 1)) (hz : z.cells.size = 1)
    (v : Value) (pre l : List Int) (A : Option Addr) (c : Nat) (hs : a.eval s = v) (hx : a.eval x = .slice A l.length c) (HO : RowD W base v pre) (HC : Kd.C (Kd.int .u8) W A l.length l) (hbase : base ≤ W.heap.size)
    (hl : pre.length + l.length ≤ 140737488355328)
    (h : ∀ v1 w1, RowD w1 base v1 (pre ++ l) → Below base W w1 → W.grownBy w1 v.ownBlock → (∀ k, v1.ownBlock = some k → v.ownBlock = some k ∨ W.heap.size ≤ k) → wpList P ops Q rest (a.put o.dst v1) w1) : wpList P ops Q (o :: rest) a W := by
  unfold wpList
  rw [if_pos (by simp [Region.wanted, hgd])]
  left
  obtain ⟨i0, hi, hzz⟩ := Option.map_eq_some_iff.1 hinfo
  simp only [Prod.mk.injEq] at hzz
  obtain ⟨hz0, hz1, hz2⟩ := hzz
  have hrow : ∀ k, v.ownBlock = some k → base ≤ k := own_base HO
  unfold Oper.wp
  simp only [execOp, ho, resolve, invoke, builtin, Sem.run_bind, Sem.run_pure, Result.andThen_ok, List.map_toArray, List.map_cons, List.map_nil, hs, hx]
  cases A with
  | some ad =>
    obtain ⟨v1, w1, hr, hown, hg, _, hat⟩ := run_append_own_at (P := P) W base t o.type 5 i0 z 1 1 ht hi hz0 hz1 hz2 hz (by decide) v pre.length _ HO ad l.length c (l.map (Value.int .u8)) (by rw [List.length_map]; omega)
      (fun j u hu => by
        rw [List.getElem?_map] at hu
        obtain ⟨y, hy, rfl⟩ := Option.map_eq_some_iff.1 hu
        obtain ⟨ad', e, hc⟩ := HC.2.2 (by have := (List.getElem?_eq_some_iff.1 hy).1; omega)
        cases e
        obtain ⟨cs, _, hK, hcs⟩ := hc j y hy
        have hK : cs = [.int .u8 y] := hK
        have := hcs 0 (.int .u8 y) (by rw [hK]; rfl)
        rwa [show j * (Kd.int .u8).sz + 0 = j by show j * 1 + 0 = j; omega] at this)
      (fun u hu => by
        obtain ⟨p, _, rfl⟩ := List.mem_map.1 hu
        rfl) (by simp only [maxLen]; omega) (by omega) hbase
    rw [hr]
    refine h v1 w1 ?_ ((Below.refl _ _).grown hg hbase hrow) hg (fun k hk => ?_)
    · unfold RowD
      rw [List.length_append, List.map_append]
      exact hown
    · rcases hat with e | e
      · exact .inl (e ▸ hk)
      · rw [hk] at e
        cases e
        exact .inr (Nat.le_refl _)
  | none =>
    have hn : l = [] := by
      rcases l with _ | ⟨y, l⟩
      · rfl
      · obtain ⟨_, e, _⟩ := HC.2.2 (Nat.succ_pos _)
        cases e
    subst hn
    have hv : (Builtin.append_ #[t, t] o.type #[v, .slice none 0 c]).run P W = .ok v W := by
      rcases HO.2 with ⟨rfl, hp⟩ | ⟨g, cap, cur, rfl, _, hg, hnc, _⟩
      · simp [Builtin.append_, run_underlying ht, sizeOf, typeInfo, hi, Builtin.lenOf, Builtin.firstCells]
      · simp [Builtin.append_, run_underlying ht, sizeOf, typeInfo, hi, Builtin.lenOf, Builtin.firstCells, hnc, storeCells]
    rw [show ([] : List Int).length = 0 from rfl, hv]
    exact h v W (by rw [List.append_nil]; exact HO) (Below.refl _ _) ⟨rfl, rfl, rfl, Nat.le_refl _, fun _ _ _ => rfl⟩ (fun k hk => .inl hk)
def KeepR (w w' : World) : Prop := ∀ (k : Nat) (cs : Array Value), w.heap[k]? = some (.cells cs 5 (0, 0)) → w'.heap[k]? = some (.cells cs 5 (0, 0))
theorem KeepR.refl (w : World) : KeepR w w := fun _ _ h => h
theorem KeepR.trans {w w1 w2 : World} (h : KeepR w w1) (g : KeepR w1 w2) : KeepR w w2 := fun k cs hk => g k cs (h k cs hk)
theorem KeepR.of_below {w w1 : World} (h : Below w.heap.size w w1) : KeepR w w1 := fun _ _ hk => blk_below hk h
theorem RowD.keep {w w1 : World} {base : Nat} {v : Value} {l : List Int} (h : RowD w base v l) (hk : KeepR w w1) : RowD w1 base v l := h.move fun k e => by
  obtain ⟨_, cs, hc⟩ := h.at k e
  rw [hc]
  exact hk k cs hc
end Go.Proofs.YtmmbpbgcobmifaaGreatDoorH
end
section
namespace Go.Proofs.YtmmbpbgcobmifaaGreatDoor.Pr
end Go.Proofs.YtmmbpbgcobmifaaGreatDoor.Pr
namespace Go.Proofs.YtmmbpbgcobmifaaGreatDoorH
set_option linter.unusedVariables false
set_option linter.unusedSimpArgs false
open Go Go.RowKit Go.Proofs.YtmmbpbgcobmifaaGreatDoorW.PrintWords Go.Proofs.YtmmbpbgcobmifaaGreatDoorW.PrintLast Go.Proofs.YtmmbpbgcobmifaaGreatDoorW.PrintMore Go.Proofs.YtmmbpbgcobmifaaGreatDoor.Pr
theorem EncAt.grow {W W1 : World} {B b k n sz : Nat} {en : Bool} {row : Option Nat} (h : EncAt W B b k n sz en) (hg : W.grownBy W1 row) (hr : ∀ j, row = some j → ∃ cs, W.heap[j]? = some (.cells cs 5 (0, 0))) : EncAt W1 B b k n sz en := by
  obtain ⟨bk, h1, h2, h3, h4, h5, h6⟩ := h
  refine ⟨bk, h1, h2, h3, h4, (hg.block b (blk_lt h5) (fun e => ?_)).trans h5, (hg.block bk (kind_cell h6).2.2 (fun e => ?_)).trans h6⟩
  · obtain ⟨cs, hc⟩ := hr b e.symm
    have := hc.symm.trans h5
    cases this
  · obtain ⟨cs, hc⟩ := hr bk e.symm
    have := hc.symm.trans h6
    unfold kindO at this
    split at this
    · cases this
    · split at this
      · cases this
      · cases this
end Go.Proofs.YtmmbpbgcobmifaaGreatDoorH
end
section
namespace Go.Proofs.YtmmbpbgcobmifaaGreatDoor.Pr
end Go.Proofs.YtmmbpbgcobmifaaGreatDoor.Pr
namespace Go.Proofs.YtmmbpbgcobmifaaGreatDoorH
set_option linter.unusedVariables false
set_option linter.unusedSimpArgs false
open Go Go.RowKit Go.Proofs.YtmmbpbgcobmifaaGreatDoorW.PrintWords Go.Proofs.YtmmbpbgcobmifaaGreatDoorW.PrintLast Go.Proofs.YtmmbpbgcobmifaaGreatDoorW.PrintMore Go.Proofs.YtmmbpbgcobmifaaGreatDoor.Pr
def KeepO (T : TypeId) (w w' : World) : Prop := ∀ (k : Nat) (cs : Array Value) (t : TypeId) (g : Nat × Nat), t ≠ T → w.heap[k]? = some (.cells cs t g) → w'.heap[k]? = some (.cells cs t g)
theorem KeepO.of_only {T : TypeId} {b : Nat} {w w1 : World} {cs0 : Array Value} (h : Only b w w1) (hb : w.heap[b]? = some (.cells cs0 T (0, 0))) : KeepO T w w1 := fun k cs t g hne hk => h.blk hk (fun e => by
  rw [e, hb] at hk
  cases hk
  exact hne rfl)
theorem KeepO.row {T : TypeId} {w w1 : World} (h : KeepO T w w1) (hT : 5 ≠ T) : KeepR w w1 := fun k cs hk => h k cs _ _ hT hk
theorem RowD.base {W : World} {b0 b1 : Nat} {v : Value} {l : List Int} (h : RowD W b1 v l) (hle : b0 ≤ b1) : RowD W b0 v l := by
  rcases h.2 with hn | ⟨g, cap, cur, e, hg, rest⟩
  · exact ⟨h.1, .inl hn⟩
  · exact ⟨h.1, .inr ⟨g, cap, cur, e, Nat.le_trans hle hg, rest⟩⟩
set_option maxRecDepth 100000 in
theorem cloneD (ad : Addr) (c : Nat) (l : List Int) (w : World) (hr : Kd.C (Kd.int .u8) w (some ad) l.length l) (hl : l.length ≤ 140737488355328) :
    Calls Tryz.prog 146 #[.slice (some ad) l.length c] w fun e w' => ∃ v, e = .returned v ∧ RowD w' w.heap.size v l ∧ Below w.heap.size w w' := by
  refine (Tryz.bytes_Clone_at ad l.length c l w rfl hl (fun i hi => ?_)).mono ?_
  · obtain ⟨ad', e, hc⟩ := hr.2.2 (by omega)
    cases e
    obtain ⟨cs, _, hK, hcs⟩ := hc i l[i] (List.getElem?_eq_getElem hi)
    have hK : cs = [.int .u8 l[i]] := hK
    have := hcs 0 (.int .u8 l[i]) (by rw [hK]; rfl)
    rw [show i * (Kd.int .u8).sz + 0 = i by show i * 1 + 0 = i; omega] at this
    rw [this, List.getD_eq_getElem?_getD, List.getElem?_eq_getElem hi]
    rfl
  · rintro e w' ⟨v, rfl, ho, _, hb⟩
    exact ⟨v, rfl, ho, hb⟩
set_option maxHeartbeats 1600000 in
set_option maxRecDepth 100000 in
theorem plain_putD (bk n : Nat) (ad : Addr) (c : Nat) (l : List Int) (w : World) (hcell : w.cell? ⟨bk, 0, none⟩ = some (.int .i64 n)) (hf : w.frozen? ⟨bk, 0, none⟩ = false)
    (hr : Kd.C (Kd.int .u8) (w.setCell ⟨bk, 0, none⟩ (.int .i64 ((n + l.length : Nat) : Int))) (some ad) l.length l) (hl : n + l.length ≤ 4611686018427387904) (hl2 : l.length ≤ 1073741824) :
    Calls Tryz.prog 144 #[.pointer (some ⟨bk, 0, none⟩), .slice (some ad) l.length c] w fun e w' =>
      ∃ v, e = .returned (.tuple #[v, .int .i64 0]) ∧ RowD w' (w.setCell ⟨bk, 0, none⟩ (.int .i64 ((n + l.length : Nat) : Int))).heap.size v l ∧ Below (w.setCell ⟨bk, 0, none⟩ (.int .i64 ((n + l.length : Nat) : Int))).heap.size (w.setCell ⟨bk, 0, none⟩ (.int .i64 ((n + l.length : Nat) : Int))) w' := by
  have ha := add_calls bk n (some ad) l.length c w hcell hf hl
  have HC := Aside0.mk hr
  clear hr hcell hf
  generalize w.setCell ⟨bk, 0, none⟩ (.int .i64 ((n + l.length : Nat) : Int)) = w1 at *
  have hcl := cloneD ad c l w1 HC.out (by omega)
  clear HC
  go_enter Tryz.func144, Tryz.ntmps144
  go_wp2_with fail
  refine ha.mono ?_
  rintro e w2 ⟨rfl, rfl⟩
  clear ha
  go_wp2_with fail
  refine hcl.mono ?_
  rintro e w3 ⟨v, rfl, hrow, b3⟩
  obtain ⟨A3, c3, rfl, _, _⟩ := hrow.reads
  have HR := Aside0.mk hrow
  clear hcl hrow
  go_wp2
  go_ret2
  exact ⟨_, rfl, HR.out, b3⟩
set_option maxHeartbeats 1600000 in
set_option maxRecDepth 100000 in
theorem fixed_putD (bk n sz : Nat) (ad : Addr) (c : Nat) (l : List Int) (w : World) (h : w.heap[bk]? = some (.cells #[.int .i64 n, .int .u64 sz] 60 (0, 0))) (hle : n ≤ sz) (hsz : sz ≤ 4611686018427387903)
    (hr : ∀ W, KeepO 60 w W → Kd.C (Kd.int .u8) W (some ad) l.length l) (hl2 : l.length ≤ 1073741824) (hlt : ¬ sz - n < l.length) :
    Calls Tryz.prog 142 #[.pointer (some ⟨bk, 0, none⟩), .slice (some ad) l.length c] w fun e w' =>
      ∃ v, e = .returned (.tuple #[v, .int .i64 0]) ∧ RowD w' w.heap.size v l ∧ w'.heap[bk]? = some (.cells #[.int .i64 ((n + l.length : Nat) : Int), .int .u64 sz] 60 (0, 0)) ∧ Only bk w w' := by
  have hlf := fixed_left bk n sz w h hle hsz
  have hw0 : IntKind.u64.wrap (l.length : Int) = l.length := by
    unfold IntKind.wrap
    simp [IntKind.bits, IntKind.signed]
    omega
  have hlt' : ¬ ((sz - n : Nat) : Int) < (l.length : Int) := by omega
  have HH := Aside0.mk h
  have HR := Aside0.mk hr
  have HP := Aside0.mk (fun w1 (hd : Drawn0 w w1) => by
    have hb := hd.below
    have h1 := blk_below h hb
    have c0 : w1.cell? ⟨bk, 0, none⟩ = some (.int .i64 n) := (blk_cell h1 0).trans rfl
    exact plain_putD bk n ad c l w1 c0 (blk_frozen h1 0) (hr _ (KeepO.of_only ((Only.of_below hb (Nat.le_of_lt (blk_lt h))).trans (Only.set w1 0 _)) h)) (by omega) hl2)
  generalize sz - n = x at *
  clear hr h hlt
  obtain ⟨m, hm⟩ : ∃ m, n + l.length = m := ⟨_, rfl⟩
  rw [hm] at HP ⊢
  clear hm
  go_enter Tryz.func142, Tryz.ntmps142
  go_wp2_with fail
  refine hlf.mono ?_
  rintro e w2 ⟨rfl, hd⟩
  have HD := Aside0.mk hd
  clear hlf hd
  go_wp2_with fail
  refine (HP.out w2 HD.out).mono ?_
  rintro e w3 ⟨v, rfl, hrow, b3⟩
  obtain ⟨A3, c3, rfl, _, _⟩ := hrow.reads
  have HR3 := Aside0.mk hrow
  have HB3 := Aside0.mk b3
  clear hrow b3
  go_wp2
  go_ret2
  have h2 := blk_below HH.out HD.out.below
  have hs := blk_set h2 0 (.int .i64 (m : Int))
  exact ⟨_, rfl, HR3.out.base (by rw [World.size_setCell]; exact HD.out.below.size), by simpa using blk_below hs HB3.out, (Only.of_below HD.out.below (Nat.le_of_lt (blk_lt HH.out))).trans (only_set (blk_lt h2) _ HB3.out)⟩
set_option maxHeartbeats 1600000 in
set_option maxRecDepth 100000 in
theorem enc_put1D (B b n sz : Nat) (ad : Addr) (c : Nat) (l : List Int) (w : World) (h : EncAt w B b 1 n sz false) (hr : ∀ W, KeepO 60 w W → Kd.C (Kd.int .u8) W (some ad) l.length l) (hl2 : l.length ≤ 1073741824) (hle : n ≤ sz) (hsz : sz ≤ 4611686018427387903) (hlt : ¬ sz - n < l.length) :
    Calls Tryz.prog 9 #[.pointer (some ⟨b, 0, none⟩), .slice (some ad) l.length c] w fun e w' => ∃ v, e = .returned (.tuple #[v, .int .i64 0]) ∧ RowD w' w.heap.size v l ∧ EncAt w' B b 1 (n + l.length) sz false ∧ Below B w w' ∧ KeepO 60 w w' := by
  obtain ⟨bk, h1, h2, h3, h4, h5, h6⟩ := h
  have c1 : w.cell? ⟨b, 1, none⟩ = some (.bool false) := (blk_cell h5 1).trans rfl
  have c0 : w.cell? ⟨b, 0, none⟩ = some (.iface 54 (.pointer (some ⟨bk, 0, none⟩))) := (blk_cell h5 0).trans rfl
  have hp := fixed_putD bk n sz ad c l w h6 hle hsz hr hl2 hlt
  have hmt : ∀ (q : Nat) (W : World), (method (q + 1) 54 (.pointer (some ⟨bk, 0, none⟩)) "catchpit/enchunk.put").run Tryz.prog W = .ok (142, .pointer (some ⟨bk, 0, none⟩)) W := fun _ _ => by kernel_rfl
  have H5 := Aside0.mk h5
  have H6 := Aside0.mk h6
  clear h5 h6 hr
  obtain ⟨m, hm⟩ : ∃ m, n + l.length = m := ⟨_, rfl⟩
  rw [hm] at hp
  rw [hm]
  clear hm
  go_enter Tryz.func9, Tryz.ntmps9
  go_wp2_with fail
  refine hp.mono ?_
  rintro e w2 ⟨v, rfl, hrow, hk, ho⟩
  obtain ⟨A3, c3, rfl, _, _⟩ := hrow.reads
  have HR3 := Aside0.mk hrow
  have HK := Aside0.mk hk
  have HO := Aside0.mk ho
  clear hp hrow hk ho
  go_wp2
  go_ret2
  exact ⟨_, rfl, HR3.out, ⟨bk, h1, h2, h3, by decide, HO.out.blk H5.out h3, HK.out⟩, HO.out.1.mono h2, KeepO.of_only HO.out H6.out⟩
set_option maxHeartbeats 1600000 in
set_option maxRecDepth 100000 in
theorem enc_end1D (B b n sz : Nat) (c : Nat) (w : World) (h : EncAt w B b 1 n sz false) (hsn : n = sz) (hsz : sz ≤ 4611686018427387903) :
    Calls Tryz.prog 10 #[.pointer (some ⟨b, 0, none⟩), .slice none 0 c] w fun e w' => e = .returned (.tuple #[.slice none 0 0, .int .i64 0]) ∧ Below B w w' ∧ KeepO 64 w w' := by
  subst hsn
  have HE := Aside0.mk h
  obtain ⟨bk, h1, h2, h3, h4, h5, h6⟩ := h
  have c1 : w.cell? ⟨b, 1, none⟩ = some (.bool false) := (blk_cell h5 1).trans rfl
  have c0 : w.cell? ⟨b, 0, none⟩ = some (.iface 54 (.pointer (some ⟨bk, 0, none⟩))) := (blk_cell h5 0).trans rfl
  have hl := fixed_end_nil bk n c w h6 hsz
  have hmt : ∀ (q : Nat) (W : World), (method (q + 1) 54 (.pointer (some ⟨bk, 0, none⟩)) "catchpit/enchunk.end").run Tryz.prog W = .ok (139, .pointer (some ⟨bk, 0, none⟩)) W := fun _ _ => by kernel_rfl
  have HF := Aside0.mk (fun w2 (hd : Drawn0 w w2) => (⟨(blk_cell (blk_below h5 hd.below) 1).trans rfl, blk_frozen (blk_below h5 hd.below) 1⟩ : w2.cell? ⟨b, 1, none⟩ = some (.bool false) ∧ w2.frozen? ⟨b, 1, none⟩ = false))
  have H5 := Aside0.mk h5
  clear h5 h6
  go_enter Tryz.func10, Tryz.ntmps10
  go_wp2_with fail
  refine hl.mono ?_
  rintro e w2 ⟨rfl, hd⟩
  have d1 := (HF.out w2 hd).1
  have e1 := (HF.out w2 hd).2
  have HD := Aside0.mk hd
  clear hl hd
  go_wp2
  go_ret2
  exact ⟨rfl, ((HD.out.below).mono (Nat.le_trans h1 (Nat.le_of_lt (blk_lt H5.out)))).setCell (p := ⟨b, 1, none⟩) h1 _, KeepO.of_only ((Only.drawn HD.out (Nat.le_of_lt (blk_lt H5.out))).trans (Only.set w2 1 _)) H5.out⟩
end Go.Proofs.YtmmbpbgcobmifaaGreatDoorH
end
section
namespace Go.Proofs.YtmmbpbgcobmifaaGreatDoor.Pr
end Go.Proofs.YtmmbpbgcobmifaaGreatDoor.Pr
namespace Go.Proofs.YtmmbpbgcobmifaaGreatDoorH
set_option linter.unusedVariables false
set_option linter.unusedSimpArgs false
open Go Go.RowKit Go.Proofs.YtmmbpbgcobmifaaGreatDoorW.PrintWords Go.Proofs.YtmmbpbgcobmifaaGreatDoorW.PrintLast Go.Proofs.YtmmbpbgcobmifaaGreatDoorW.PrintMore Go.Proofs.YtmmbpbgcobmifaaGreatDoor.Pr
abbrev outC (b sp : Nat) (kept : Value) (sh : Bool) (wr : Nat) : Array Value := #[.pointer (some ⟨b, 0, none⟩), .bool true, .int .u8 (sp : Int), kept, .bool sh, .int .i64 (wr : Int)]
def OutAt (W : World) (o b sp : Nat) (kept : Value) (sh : Bool) (wr : Nat) : Prop := W.heap[o]? = some (.cells (outC b sp kept sh wr) 94 (0, 0))
theorem EncAt.base {W : World} {B B' b k n sz : Nat} {en : Bool} (h : EncAt W B b k n sz en) (hle : B' ≤ B) : EncAt W B' b k n sz en := by
  obtain ⟨bk, h1, h2, h3⟩ := h
  exact ⟨bk, Nat.le_trans hle h1, Nat.le_trans hle h2, h3⟩
theorem EncAt.keep {W W' : World} {T : TypeId} {B b k n sz : Nat} {en : Bool} (h : EncAt W B b k n sz en) (hk : KeepO T W W') (h1 : 64 ≠ T) (h2 : 60 ≠ T) (h3 : 66 ≠ T) (h4 : 58 ≠ T) : EncAt W' B b k n sz en := by
  obtain ⟨bk, a1, a2, a3, a4, a5, a6⟩ := h
  refine ⟨bk, a1, a2, a3, a4, hk _ _ _ _ h1 a5, ?_⟩
  unfold kindO at a6 ⊢
  by_cases e1 : k = 1
  · rw [if_pos e1] at a6 ⊢
    exact hk _ _ _ _ h2 a6
  · rw [if_neg e1] at a6 ⊢
    by_cases e2 : k = 2
    · rw [if_pos e2] at a6 ⊢
      exact hk _ _ _ _ h3 a6
    · rw [if_neg e2] at a6 ⊢
      exact hk _ _ _ _ h4 a6
theorem OutAt.keep {W W' : World} {T : TypeId} {o b sp wr : Nat} {kept : Value} {sh : Bool} (h : OutAt W o b sp kept sh wr) (hk : KeepO T W W') (h1 : 94 ≠ T) : OutAt W' o b sp kept sh wr := hk _ _ _ _ h1 h
theorem OutAt.below {W W' : World} {o b sp wr : Nat} {kept : Value} {sh : Bool} (h : OutAt W o b sp kept sh wr) (hb : Below W.heap.size W W') : OutAt W' o b sp kept sh wr := blk_below h hb
section
variable {W : World} {o b sp wr : Nat} {kept : Value} {sh : Bool}
theorem OutAt.c0 (h : OutAt W o b sp kept sh wr) : W.cell? ⟨o, 0, none⟩ = some (.pointer (some ⟨b, 0, none⟩)) := (blk_cell h 0).trans rfl
theorem OutAt.c1 (h : OutAt W o b sp kept sh wr) : W.cell? ⟨o, 1, none⟩ = some (.bool true) := (blk_cell h 1).trans rfl
theorem OutAt.c2 (h : OutAt W o b sp kept sh wr) : W.cell? ⟨o, 2, none⟩ = some (.int .u8 (sp : Int)) := (blk_cell h 2).trans rfl
theorem OutAt.c3 (h : OutAt W o b sp kept sh wr) : W.cell? ⟨o, 3, none⟩ = some kept := (blk_cell h 3).trans rfl
theorem OutAt.c4 (h : OutAt W o b sp kept sh wr) : W.cell? ⟨o, 4, none⟩ = some (.bool sh) := (blk_cell h 4).trans rfl
theorem OutAt.c5 (h : OutAt W o b sp kept sh wr) : W.cell? ⟨o, 5, none⟩ = some (.int .i64 (wr : Int)) := (blk_cell h 5).trans rfl
theorem OutAt.fz (h : OutAt W o b sp kept sh wr) (j : Nat) : W.frozen? ⟨o, j, none⟩ = false := blk_frozen h j
theorem OutAt.lt (h : OutAt W o b sp kept sh wr) : o < W.heap.size := blk_lt h
theorem OutAt.s2 (h : OutAt W o b sp kept sh wr) (x : Nat) : OutAt (W.setCell ⟨o, 2, none⟩ (.int .u8 (x : Int))) o b x kept sh wr := by
  have := blk_set h 2 (.int .u8 (x : Int))
  unfold OutAt
  simpa using this
theorem OutAt.s3 (h : OutAt W o b sp kept sh wr) (v : Value) : OutAt (W.setCell ⟨o, 3, none⟩ v) o b sp v sh wr := by
  have := blk_set h 3 v
  unfold OutAt
  simpa using this
theorem OutAt.s4 (h : OutAt W o b sp kept sh wr) (x : Bool) : OutAt (W.setCell ⟨o, 4, none⟩ (.bool x)) o b sp kept x wr := by
  have := blk_set h 4 (.bool x)
  unfold OutAt
  simpa using this
theorem OutAt.s5 (h : OutAt W o b sp kept sh wr) (x : Nat) : OutAt (W.setCell ⟨o, 5, none⟩ (.int .i64 (x : Int))) o b sp kept sh x := by
  have := blk_set h 5 (.int .i64 (x : Int))
  unfold OutAt
  simpa using this
theorem OutAt.turn (h : OutAt W o b sp kept sh wr) (j : Nat) (v : Value) : KeepO 94 W (W.setCell ⟨o, j, none⟩ v) := KeepO.of_only (Only.set W j v) h
end
theorem KeepO.trans {T : TypeId} {w w1 w2 : World} (h : KeepO T w w1) (g : KeepO T w1 w2) : KeepO T w w2 := fun k cs t m hne hk => g k cs t m hne (h k cs t m hne hk)
set_option maxHeartbeats 1600000 in
set_option maxRecDepth 100000 in
theorem out_new (w : World) :
    Calls Tryz.prog 24 #[.agg #[.int .i64 1, .int .u64 3]] w fun e w' => ∃ o b, e = .returned (.tuple #[.pointer (some ⟨o, 0, none⟩), .int .i64 0]) ∧ OutAt w' o b 0 (.slice none 0 0) false 0 ∧ EncAt w' w.heap.size b 1 0 3 false ∧ w.heap.size ≤ o ∧ Below w.heap.size w w' := by
  obtain ⟨w1, hw1⟩ : ∃ w1, w.alloc (.cells #[.int .i64 1, .int .u64 3] 36) = w1 := ⟨_, rfl⟩
  have HB1 := Aside0.mk (show Below w.heap.size w w1 by rw [← hw1]; exact below_alloc (Below.refl _ _) _)
  have HL1 := Aside0.mk (show w1.heap[w.heap.size]? = some (.cells #[.int .i64 1, .int .u64 3] 36 (0, 0)) by rw [← hw1]; exact World.alloc_heap_new w _)
  have HW1 := Aside0.mk hw1
  have hbd : ∀ (b : Nat) (W : World), (Instr.build 94 #[(0, .pointer (some ⟨b, 0, none⟩)), (1, .bool true)]).run Tryz.prog W = .ok (.agg (outC b 0 (.slice none 0 0) false 0)) W := fun _ _ => by kernel_rfl
  have d0 : w1.cell? ⟨w.heap.size, 0, none⟩ = some (.int .i64 1) := (blk_cell HL1.out 0).trans rfl
  have d1 : w1.cell? ⟨w.heap.size, 1, none⟩ = some (.int .u64 3) := (blk_cell HL1.out 1).trans rfl
  clear hw1
  go_enter Tryz.func24, Tryz.ntmps24
  go_upto_region 1 with (fail)
  rw [HW1.out]
  go_wp2_with fail
  refine (enc_new1 3 (by omega) w1).mono ?_
  rintro e w2 ⟨b, rfl, he, hb⟩
  have HE := Aside0.mk he
  have HB := Aside0.mk hb
  have l0 : w2.cell? ⟨w.heap.size, 0, none⟩ = some (.int .i64 1) := (blk_cell (blk_below HL1.out hb) 0).trans rfl
  clear he hb d0 d1
  go_wp2
  go_ret2
  refine ⟨w2.heap.size, b, rfl, heap_alloc_new w2 _, (HE.out.base HB1.out.size).below (below_alloc (Below.refl _ _) _), Nat.le_trans HB1.out.size HB.out.size, HB1.out.trans ((below_alloc HB.out _).mono HB1.out.size)⟩
set_option maxHeartbeats 1600000 in
set_option maxRecDepth 100000 in
theorem out_count (o b sp wr : Nat) (kept : Value) (sh : Bool) (A : Option Addr) (m c : Nat) (w : World) (h : OutAt w o b sp kept sh wr) (hn : wr + m ≤ 4611686018427387904) :
    Calls Tryz.prog 41 #[.pointer (some ⟨o, 0, none⟩), .slice A m c] w fun e w' => e = .returned (.slice A m c) ∧ w' = w.setCell ⟨o, 5, none⟩ (.int .i64 ((wr + m : Nat) : Int)) := by
  obtain ⟨x, hx⟩ : ∃ x, wr + m = x := ⟨_, rfl⟩
  have hw1 : IntKind.i64.wrap ((wr : Int) + (m : Int)) = (x : Int) := by
    unfold IntKind.wrap
    simp [IntKind.bits, IntKind.signed]
    omega
  have c5 := h.c5
  have f5 := h.fz 5
  rw [hx]
  clear h hx
  go_enter Tryz.func41, Tryz.ntmps41
  go_wp2
  go_ret
  exact ⟨rfl, rfl⟩
set_option maxHeartbeats 1600000 in
set_option maxRecDepth 100000 in
theorem out_put_more (B o b n sz sp wr : Nat) (kept : Value) (ad : Addr) (c : Nat) (l : List Int) (w : World) (h : OutAt w o b sp kept false wr) (he : EncAt w B b 1 n sz false) (hr : ∀ W, KeepO 60 w W → Kd.C (Kd.int .u8) W (some ad) l.length l) (hl : l.length ≤ 1000) (hp : 0 < l.length) (hlt : n + l.length < sz) (hsz : sz ≤ 1000) (hwr : wr ≤ 1000) (hB : B ≤ o) :
    Calls Tryz.prog 25 #[.pointer (some ⟨o, 0, none⟩), .slice (some ad) l.length c] w fun e w' => ∃ v, e = .returned (.tuple #[v, .int .i64 0]) ∧ RowD w' w.heap.size v l ∧ OutAt w' o b sp kept false (wr + l.length) ∧ EncAt w' B b 1 (n + l.length) sz false ∧ Below B w w' ∧ KeepR w w' := by
  have HH := Aside0.mk h
  have c4 := h.c4
  have c0 := h.c0
  have hep := enc_put1D B b n sz ad c l w he hr (by omega) (by omega) (by omega) (by omega)
  obtain ⟨m, hm⟩ : ∃ m, n + l.length = m := ⟨_, rfl⟩
  obtain ⟨y, hy⟩ : ∃ y, sz - m = y := ⟨_, rfl⟩
  have hy0 : ((y : Int) == 0) = false := by rw [beq_eq_false_iff_ne]; omega
  have hpos : (0 : Int) < (l.length : Int) := by omega
  rw [hm] at hep ⊢
  have HM := Aside0.mk (show m ≤ sz by omega)
  have HY := Aside0.mk hy
  clear h he hr hy hm
  go_enter Tryz.func25, Tryz.ntmps25
  go_wp2_with fail
  refine hep.mono ?_
  rintro e w2 ⟨v, rfl, hrow, he2, hb2, hk2⟩
  obtain ⟨A3, c3, rfl, _, _⟩ := hrow.reads
  have HO2 := Aside0.mk (HH.out.keep hk2 (by decide))
  have HE2 := Aside0.mk he2
  have HB2 := Aside0.mk hb2
  have HR2 := Aside0.mk hrow
  have HK2 := Aside0.mk (hk2.row (by decide))
  have k1 := HO2.out.c1
  have k0 := HO2.out.c0
  have hlf := enc_left1 B b m sz false w2 HE2.out HM.out (by omega)
  rw [HY.out] at hlf
  clear hep hrow he2 hb2 hk2 c0 c4
  go_wp2_with fail
  refine hlf.mono ?_
  rintro e w3 ⟨rfl, hd3⟩
  have HD3 := Aside0.mk hd3.below
  have hct := out_count o b sp wr kept false A3 l.length c3 w3 (HO2.out.below hd3.below) (by omega)
  clear hlf hd3 k1 k0
  go_wp2_with fail
  refine hct.mono ?_
  rintro e w4 ⟨rfl, rfl⟩
  clear hct
  go_wp2
  go_ret2
  have ho3 := HO2.out.below HD3.out
  exact ⟨_, rfl, (HR2.out.keep (KeepR.of_below HD3.out)).keep ((ho3.turn 5 _).row (by decide)), ho3.s5 _, (HE2.out.below HD3.out).keep (ho3.turn 5 _) (by decide) (by decide) (by decide) (by decide), (HB2.out.trans (HD3.out.mono (Nat.le_trans hB (Nat.le_of_lt HO2.out.lt)))).setCell (p := ⟨o, 5, none⟩) hB _, (HK2.out.trans (KeepR.of_below HD3.out)).trans ((ho3.turn 5 _).row (by decide))⟩
end Go.Proofs.YtmmbpbgcobmifaaGreatDoorH
end
section
namespace Go.Proofs.YtmmbpbgcobmifaaGreatDoor.Pr
end Go.Proofs.YtmmbpbgcobmifaaGreatDoor.Pr
namespace Go.Proofs.YtmmbpbgcobmifaaGreatDoorH
set_option linter.unusedVariables false
set_option linter.unusedSimpArgs false
open Go Go.RowKit Go.Proofs.YtmmbpbgcobmifaaGreatDoorW.PrintWords Go.Proofs.YtmmbpbgcobmifaaGreatDoorW.PrintLast Go.Proofs.YtmmbpbgcobmifaaGreatDoorW.PrintMore Go.Proofs.YtmmbpbgcobmifaaGreatDoor.Pr
theorem wp_append_spare {P : Program} {o : Oper} {a : Act} {K : Act → World → Prop} {Q : Exit → Act → World → Prop} {W : World} (s x : Operand) (t : TypeId) (z : Value)
    (ho : o.op = .call { callee := .builtin .append, args := #[s, x], argTypes := #[t, t] })
    (ht : P.underlying t = some (.slice 5)) (hinfo : (P.info? 5).map (fun i => (i.zero, i.size, i.bytes)) = some (some z, 1, 1))
    (ob nb : Nat) (u : Value) (y : Int) (hs : a.eval s = .slice (some ⟨ob, 2, none⟩) 0 1) (hx : a.eval x = .slice (some ⟨nb, 0, none⟩) 1 1) (hc : W.cell? ⟨ob, 2, none⟩ = some u) (hf : W.frozen? ⟨ob, 2, none⟩ = false) (hn : W.cell? ⟨nb, 0, none⟩ = some (.int .u8 y))
    (h : K (a.put o.dst (.slice (some ⟨ob, 2, none⟩) 1 1)) (W.setCell ⟨ob, 2, none⟩ (.int .u8 y))) : o.wp P a W K Q := by
  obtain ⟨i0, hi, hzz⟩ := Option.map_eq_some_iff.1 hinfo
  simp only [Prod.mk.injEq] at hzz
  obtain ⟨hz0, hz1, hz2⟩ := hzz
  have hv : (Builtin.append_ #[t, t] o.type #[.slice (some ⟨ob, 2, none⟩) 0 1, .slice (some ⟨nb, 0, none⟩) 1 1]).run P W = .ok (.slice (some ⟨ob, 2, none⟩) 1 1) (W.setCell ⟨ob, 2, none⟩ (.int .u8 y)) := by
    simp [Builtin.append_, run_underlying ht, sizeOf, typeInfo, hi, hz1, Builtin.lenOf, Builtin.firstCells, storeCells, loadCells, hc, hf, hn, Addr.add, go_sem]
  unfold Oper.wp
  simp only [execOp, ho, resolve, invoke, builtin, Sem.run_bind, Sem.run_pure, Result.andThen_ok, List.map_toArray, List.map_cons, List.map_nil, hs, hx]
  rw [hv]
  exact h
set_option maxHeartbeats 1600000 in
set_option maxRecDepth 100000 in
theorem out_put_last0 (B o b n sz sp wr x m k : Nat) (hm : m = 1) (hk : k = 0) (kept : Value) (ad : Addr) (c : Nat) (w : World) (h : OutAt w o b sp kept false wr) (he : EncAt w B b 1 n sz false) (hr : ∀ W, KeepO 60 w W → Kd.C (Kd.int .u8) W (some ad) ([(x : Int)] : List Int).length [(x : Int)]) (hlt : n + 1 = sz) (hsz : sz ≤ 1000) (hwr : wr ≤ 1000) (hB : B ≤ o) :
    Calls Tryz.prog 25 #[.pointer (some ⟨o, 0, none⟩), .slice (some ad) m c] w fun e w' => ∃ A' c', e = .returned (.tuple #[.slice A' k c', .int .i64 0]) ∧ OutAt w' o b x (.slice (some ⟨o, 2, none⟩) 1 1) false wr ∧ EncAt w' B b 1 sz sz false ∧ Below B w w' ∧ KeepR w w' := by
  have HH := Aside0.mk h
  have c4 := h.c4
  have c0 := h.c0
  have hep := enc_put1D B b n sz ad c [(x : Int)] w he hr (by simp) (by omega) (by omega) (by simp; omega)
  rw [show ([(x : Int)] : List Int).length = m from hm.symm, show n + m = sz by omega] at hep
  have hws : IntKind.i64.wrap ((m : Int) - 1) = (k : Int) := by
    rw [hm, hk]; decide
  have hm0 : (0 : Int) < (m : Int) := by omega
  have hk0 : (0 : Int) ≤ (k : Int) := by omega
  have hkm : (k : Int) < (m : Int) := by omega
  have HM := Aside0.mk hm
  have HK0 := Aside0.mk hk
  have HLT := Aside0.mk hlt
  have hsz2 : sz ≤ 4611686018427387903 := by omega
  clear h he hr hm hk hlt
  go_enter Tryz.func25, Tryz.ntmps25
  go_wp2_with fail
  refine hep.mono ?_
  rintro e w2 ⟨v, rfl, hrow, he2, hb2, hk2⟩
  obtain ⟨A3, c3, rfl, hc3, hC3⟩ := hrow.reads
  obtain ⟨ad3, rfl, hC9⟩ := hC3.2.2 (by simp)
  have HO2 := Aside0.mk (HH.out.keep hk2 (by decide))
  have HE2 := Aside0.mk he2
  have HB2 := Aside0.mk hb2
  have HK2 := Aside0.mk (hk2.row (by decide))
  have HX := Aside0.mk (show w2.cell? (ad3.add k) = some (.int .u8 (x : Int)) by
    obtain ⟨cs, _, hK, hcs⟩ := hC9 0 (x : Int) rfl
    have hK : cs = [.int .u8 (x : Int)] := hK
    have := hcs 0 (.int .u8 (x : Int)) (by rw [hK]; rfl)
    rwa [show 0 * (Kd.int .u8).sz + 0 = k by rw [HK0.out]; rfl] at this)
  have HNE := Aside0.mk (show ad3.block ≠ o by
    rcases hrow.2 with ⟨e, _⟩ | ⟨g, cap, cur, e, _, hh, _⟩
    · cases e
    · cases e
      intro e2
      have h1 := HO2.out
      unfold OutAt at h1
      have h2 : w2.heap[g]? = _ := hh
      rw [show g = o from e2, h1] at h2
      cases h2)
  have k1 := HO2.out.c1
  have k0 := HO2.out.c0
  have hlf := enc_left1 B b sz sz false w2 HE2.out (by omega) (by omega)
  rw [Nat.sub_self] at hlf
  rw [show ([(x : Int)] : List Int).length = m from HM.out.symm] at hc3 ⊢
  have hkc : (k : Int) ≤ (c3 : Int) := by omega
  have hkk : (k : Int) ≤ (k : Int) := by omega
  clear hep hrow he2 hb2 hk2 c0 c4 hC3 hC9
  go_wp2_with fail
  refine hlf.mono ?_
  rintro e w3 ⟨rfl, hd3⟩
  have HD3 := Aside0.mk hd3.below
  have HO3 := Aside0.mk (HO2.out.below hd3.below)
  have x3 := pw_cell_below hd3.below HX.out
  clear hlf hd3 k1 k0
  go_wp2_with fail
  refine wp_region_held_drew (S := (fun W => W.cell? (ad3.add k) = some (.int .u8 (x : Int)))) (by kernel_rfl) ?_ (fun hHeld => ?_)
  · exact pw_cell_below (below_drew (Below.refl w3.heap.size w3)) x3
  refine take_at (i := 0) (take_d rfl) ?_
  intro h_i
  refine wpAnyH_take (v := ?_) h_i (by kernel_rfl) (by kernel_rfl) (by kernel_rfl) (fun _ _ _ h => h) (Or.inl ⟨by rfl, ?_⟩) (by assumption) ?_
  case refine_2 => (intro w hSw; (try dsimp only at hSw); go_simp; (try with_reducible rfl))
  clear h_i
  try simp only [Act.put, List.setIfInBounds_toArray, List.set_cons_zero, List.set_cons_succ]
  refine take_at (i := 1) (take_d rfl) ?_
  intro h_i
  refine wpAnyH_take (v := ?_) h_i (by kernel_rfl) (by kernel_rfl) (by kernel_rfl) (fun _ _ _ h => h) (Or.inl ⟨by rfl, ?_⟩) (by assumption) ?_
  case refine_2 => (intro w hSw; (try dsimp only at hSw); go_simp; (try with_reducible rfl))
  clear h_i
  try simp only [Act.put, List.setIfInBounds_toArray, List.set_cons_zero, List.set_cons_succ]
  refine take_at (i := 2) (take_d rfl) ?_
  intro h_i
  refine wpAnyH_take (v := ?_) h_i (by kernel_rfl) (by kernel_rfl) (by kernel_rfl) (fun _ _ _ h => h) (Or.inl ⟨by rfl, ?_⟩) (by assumption) ?_
  case refine_2 => (intro w hSw; (try dsimp only at hSw); go_simp; (try with_reducible rfl))
  clear h_i
  try simp only [Act.put, List.setIfInBounds_toArray, List.set_cons_zero, List.set_cons_succ]
  refine take_at (i := 3) (take_d rfl) ?_
  intro h_i
  refine wpAnyH_take (v := ?_) h_i (by kernel_rfl) (by kernel_rfl) (by kernel_rfl) (fun _ _ _ h => h) (Or.inl ⟨by rfl, ?_⟩) (by assumption) ?_
  case refine_2 => (intro w hSw; (try dsimp only at hSw); go_simp; (try with_reducible rfl))
  clear h_i
  try simp only [Act.put, List.setIfInBounds_toArray, List.set_cons_zero, List.set_cons_succ]
  refine take_at (i := 4) (take_d rfl) ?_
  intro h_i
  refine wpAnyH_take (v := ?_) h_i (by kernel_rfl) (by kernel_rfl) (by kernel_rfl) (fun _ _ _ h => h) (Or.inl ⟨by rfl, ?_⟩) (by assumption) ?_
  case refine_2 => (intro w hSw; (try dsimp only at hSw); go_simp; (try with_reducible rfl))
  clear h_i
  try simp only [Act.put, List.setIfInBounds_toArray, List.set_cons_zero, List.set_cons_succ]
  refine take_at (i := 5) (take_d rfl) ?_
  intro h_i
  refine wpAnyH_take (v := ?_) h_i (by kernel_rfl) (by kernel_rfl) (by kernel_rfl) (fun _ _ _ h => h) (Or.inl ⟨by rfl, ?_⟩) (by assumption) ?_
  case refine_2 => (intro w hSw; (try dsimp only at hSw); go_simp; (try with_reducible rfl))
  clear h_i
  try simp only [Act.put, List.setIfInBounds_toArray, List.set_cons_zero, List.set_cons_succ]
  refine take_at (i := 6) (take_d rfl) ?_
  intro h_i
  refine wpAnyH_take (v := ?_) h_i (by kernel_rfl) (by kernel_rfl) (by kernel_rfl) (fun _ _ _ h => h) (Or.inl ⟨by rfl, ?_⟩) (by assumption) ?_
  case refine_2 => (intro w hSw; (try dsimp only at hSw); go_simp; (try with_reducible rfl))
  clear h_i
  try simp only [Act.put, List.setIfInBounds_toArray, List.set_cons_zero, List.set_cons_succ]
  refine take_at (i := 7) (take_d rfl) ?_
  intro h_i
  refine wpAnyH_take (v := ?_) h_i (by kernel_rfl) (by kernel_rfl) (by kernel_rfl) (fun _ _ _ h => h) (Or.inl ⟨by rfl, ?_⟩) (by assumption) ?_
  case refine_2 => (intro w hSw; (try dsimp only at hSw); go_simp; (try with_reducible rfl))
  clear h_i
  try simp only [Act.put, List.setIfInBounds_toArray, List.set_cons_zero, List.set_cons_succ]
  refine take_at (i := 8) (take_d rfl) ?_
  intro h_i
  refine wpAnyH_take (v := ?_) h_i (by kernel_rfl) (by kernel_rfl) (by kernel_rfl) (fun _ _ _ h => h) (Or.inl ⟨by rfl, ?_⟩) (by assumption) ?_
  case refine_2 => (intro w hSw; (try dsimp only at hSw); go_simp; (try with_reducible rfl))
  clear h_i
  try simp only [Act.put, List.setIfInBounds_toArray, List.set_cons_zero, List.set_cons_succ]
  refine take_at (i := 9) (take_d rfl) ?_
  intro h_i
  refine wpAnyH_take (v := ?_) h_i (by kernel_rfl) (by kernel_rfl) (by kernel_rfl) (fun _ _ _ h => h) (Or.inl ⟨by rfl, ?_⟩) (by assumption) ?_
  case refine_2 => (intro w hSw; (try dsimp only at hSw); go_simp; (try with_reducible rfl))
  clear h_i
  try simp only [Act.put, List.setIfInBounds_toArray, List.set_cons_zero, List.set_cons_succ]
  refine wpAnyH_ready (rs := [10]) (by kernel_rfl) (by simp) ?_
  refine AllReadyH.cons (take_d rfl) (fun zK hK => ?_) AllReadyH.nil
  go_simp
  obtain ⟨W4, hW4⟩ : ∃ W4, (w3.alloc (.cells #[.int .u8 (x : Int)] 5)).drew = W4 := ⟨_, rfl⟩
  have HB4 := Aside0.mk (show Below w3.heap.size w3 W4 by rw [← hW4]; exact below_drew (below_alloc (Below.refl _ _) _))
  have hn4 : W4.cell? ⟨w3.heap.size, 0, none⟩ = some (.int .u8 (x : Int)) := by
    rw [← hW4]
    exact pw_cell_below (below_drew (Below.refl _ _)) ((blk_cell (World.alloc_heap_new w3 _) 0).trans rfl)
  have HN4 := Aside0.mk hn4
  rw [hW4]
  clear hW4 hn4
  refine hK.out _ _ ?_ (fun hHeld2 => ?_)
  · exact pw_cell_below HB4.out x3
  clear hK zK hHeld
  have hHeld := hHeld2
  clear hHeld2
  try simp only [Act.put, List.setIfInBounds_toArray, List.set_cons_zero, List.set_cons_succ]
  have HO4 := Aside0.mk (HO3.out.below HB4.out)
  refine wpAnyH_ready (rs := [11]) (by kernel_rfl) (by simp) ?_
  refine AllReadyH.cons (take_d rfl) (fun zK hK => ?_) AllReadyH.nil
  rw [if_pos (by rfl)]
  refine wp_append_spare (.tmp 44) (.tmp 50) 25 (.int .u8 0) rfl Tryz.underlying25 info5 o w3.heap.size _ (x : Int) rfl rfl HO4.out.c2 (HO4.out.fz 2) HN4.out ?_
  try simp only [Act.put, List.setIfInBounds_toArray, List.set_cons_zero, List.set_cons_succ]
  have HO5 := Aside0.mk (HO4.out.s2 x)
  have HT5 := Aside0.mk (HO4.out.turn 2 (.int .u8 (x : Int)))
  have HB5 := Aside0.mk (show Below B W4 (W4.setCell ⟨o, 2, none⟩ (.int .u8 (x : Int))) from (Below.refl B W4).setCell (p := ⟨o, 2, none⟩) hB _)
  have hx5 : (W4.setCell ⟨o, 2, none⟩ (.int .u8 (x : Int))).cell? (ad3.add k) = some (.int .u8 (x : Int)) := by
    rw [World.cell?_setCell_other]
    · exact pw_cell_below HB4.out x3
    · intro e2
      exact HNE.out (by have := congrArg Addr.block e2; unfold Addr.add at this; split at this <;> exact this.symm)
  generalize W4.setCell ⟨o, 2, none⟩ (.int .u8 (x : Int)) = W5 at *
  refine hK.out _ _ hx5 (fun hHeld2 => ?_)
  clear hK zK hHeld hHeld2
  have f3 := HO5.out.fz 3
  have k3 := HO5.out.c3
  refine wpAnyH_ready (rs := [12]) (by kernel_rfl) (by simp) ?_
  refine AllReadyH.cons (take_d rfl) (fun zK hK => ?_) AllReadyH.nil
  go_simp
  refine hK.out _ _ hx5 (fun hHeld2 => ?_)
  clear hK zK hHeld2
  try simp only [Act.put, List.setIfInBounds_toArray, List.set_cons_zero, List.set_cons_succ]
  refine wpAnyH_ready (rs := [13]) (by kernel_rfl) (by simp) ?_
  refine AllReadyH.cons (take_d rfl) (fun zK hK => ?_) AllReadyH.nil
  go_simp
  refine hK.out _ _ hx5 (fun hHeld2 => ?_)
  clear hK zK hHeld2
  try simp only [Act.put, List.setIfInBounds_toArray, List.set_cons_zero, List.set_cons_succ]
  refine wpAnyH_ready (rs := [14]) (by kernel_rfl) (by simp) ?_
  refine AllReadyH.cons (take_d rfl) (fun zK hK => ?_) AllReadyH.nil
  go_simp
  have HO6 := Aside0.mk (HO5.out.s3 (.slice (some ⟨o, 2, none⟩) 1 1))
  have HT6 := Aside0.mk (HO5.out.turn 3 (.slice (some ⟨o, 2, none⟩) 1 1))
  have HB6 := Aside0.mk (show Below B W5 (W5.setCell ⟨o, 3, none⟩ (.slice (some ⟨o, 2, none⟩) 1 1)) from (Below.refl B W5).setCell (p := ⟨o, 3, none⟩) hB _)
  have hx6 : (W5.setCell ⟨o, 3, none⟩ (.slice (some ⟨o, 2, none⟩) 1 1)).cell? (ad3.add k) = some (.int .u8 (x : Int)) := by
    rw [World.cell?_setCell_other]
    · exact hx5
    · intro e2
      exact HNE.out (by have := congrArg Addr.block e2; unfold Addr.add at this; split at this <;> exact this.symm)
  generalize W5.setCell ⟨o, 3, none⟩ (.slice (some ⟨o, 2, none⟩) 1 1) = W6 at *
  refine hK.out _ _ hx6 (fun hHeld2 => ?_)
  clear hK zK hHeld2
  try simp only [Act.put, List.setIfInBounds_toArray, List.set_cons_zero, List.set_cons_succ]
  refine wpAnyH_done (by kernel_rfl) ?_ _
  have HCT := Aside0.mk (fun A' c' => by
    have hq := out_count o b x wr (.slice (some ⟨o, 2, none⟩) 1 1) false A' k c' W6 HO6.out (by have := HK0.out; omega)
    rw [show wr + k = wr by have := HK0.out; omega] at hq
    exact hq)
  clear f3 k3 hx5 hx6 x3
  go_wp2_with fail
  refine (HCT.out _ _).mono ?_
  rintro e w7 ⟨rfl, rfl⟩
  clear HCT
  go_wp2
  go_ret2
  have ho7 := HO6.out.s5 wr
  have ht7 := HO6.out.turn 5 (.int .i64 (wr : Int))
  have he6 := (((HE2.out.below HD3.out).below HB4.out).keep HT5.out (by decide) (by decide) (by decide) (by decide)).keep HT6.out (by decide) (by decide) (by decide) (by decide)
  have hb3 := HB2.out.trans (HD3.out.mono (Nat.le_trans hB (Nat.le_of_lt HO2.out.lt)))
  have hb4 := hb3.trans (HB4.out.mono (Nat.le_trans hB (Nat.le_of_lt HO3.out.lt)))
  exact ⟨_, _, rfl, ho7, he6.keep ht7 (by decide) (by decide) (by decide) (by decide), ((hb4.trans HB5.out).trans HB6.out).setCell (p := ⟨o, 5, none⟩) hB _, ((((HK2.out.trans (KeepR.of_below HD3.out)).trans (KeepR.of_below HB4.out)).trans (HT5.out.row (by decide))).trans (HT6.out.row (by decide))).trans (ht7.row (by decide))⟩
end Go.Proofs.YtmmbpbgcobmifaaGreatDoorH
end
section
namespace Go.Proofs.YtmmbpbgcobmifaaGreatDoor.Pr
end Go.Proofs.YtmmbpbgcobmifaaGreatDoor.Pr
namespace Go.Proofs.YtmmbpbgcobmifaaGreatDoorH
set_option linter.unusedVariables false
set_option linter.unusedSimpArgs false
open Go Go.RowKit Go.Proofs.YtmmbpbgcobmifaaGreatDoorW.PrintWords Go.Proofs.YtmmbpbgcobmifaaGreatDoorW.PrintLast Go.Proofs.YtmmbpbgcobmifaaGreatDoorW.PrintMore Go.Proofs.YtmmbpbgcobmifaaGreatDoor.Pr
theorem results_tmp_cell {fn : Func} {t p : Tmp} {ty : TypeId} (h : fn.results = #[.tmp t, .cell p ty]) (tmps : Array Value) (P : Program) (w : World) (a : Addr) (v : Value)
    (hp : tmps.getD p undef = .pointer (some a)) (hA : (isAgg ty).run P w = .ok false w) (hc : w.cell? a = some v) : (results fn tmps).run P w = .ok (.tuple #[tmps.getD t undef, v]) w := by
  rw [Array.getD_eq_getD_getElem?] at hp
  simp only [results, h]
  simp [Sem.run_bind, Result.andThen, hp, loadVar, hA, asAddr, go_sem, hc]
def PartE (w : World) (e : Ending) (w' : World) : Prop := e = .returned (.tuple #[.slice none 0 0, .slice none 0 0]) ∧ Below w.heap.size w w'
set_option maxHeartbeats 1600000 in
set_option maxRecDepth 100000 in
theorem parted_nil (c : Nat) (w : World) : Calls Tryz.prog 53 #[.slice none 0 c] w (PartE w) := by
  obtain ⟨w1, hw1⟩ : ∃ w1, w.alloc (.cells #[.slice none 0 0] 23) = w1 := ⟨_, rfl⟩
  have HB1 := Aside0.mk (show Below w.heap.size w w1 by rw [← hw1]; exact below_alloc (Below.refl _ _) _)
  have hl1 : w1.heap[w.heap.size]? = some (.cells #[.slice none 0 0] 23 (0, 0)) := by rw [← hw1]; exact World.alloc_heap_new w _
  have HL1 := Aside0.mk hl1
  have HW1 := Aside0.mk hw1
  clear hl1 hw1
  go_enter Tryz.func53, Tryz.ntmps53
  go_wp2_with fail
  refine wp_scope_straight ?_
  go_wp2_with fail
  rw [HW1.out]
  refine wp_label ?_
  go_wp2_with fail
  go_loopw [2, 9] (fun u2 u9 wr => u2 = .slice none 0 0 ∧ u9 = .int .i64 0 ∧ wr = w1) (fun _ _ _ => 0)
  case atStart => exact ⟨rfl, rfl, rfl⟩
  case round =>
    obtain ⟨rfl, rfl, rfl⟩ := hrel
    go_upto_region 10 with (fail)
    have d0 : wr.drew.cell? ⟨w.heap.size, 0, none⟩ = some (.slice none 0 0) := (blk_cell (blk_below HL1.out (below_drew (Below.refl _ _))) 0).trans rfl
    have f0 : wr.drew.frozen? ⟨w.heap.size, 0, none⟩ = false := blk_frozen (blk_below HL1.out (below_drew (Below.refl _ _))) 0
    have B2 := Aside0.mk (show Below w.heap.size w (wr.drew.setCell ⟨w.heap.size, 0, none⟩ (.slice none 0 0)) from (below_drew HB1.out).setCell (p := ⟨w.heap.size, 0, none⟩) (Nat.le_refl _) _)
    have d1 : (wr.drew.setCell ⟨w.heap.size, 0, none⟩ (.slice none 0 0)).cell? ⟨w.heap.size, 0, none⟩ = some (.slice none 0 0) := World.cell?_setCell_same _ _ _ d0
    go_region_held3 (fun W => W.cell? ⟨w.heap.size, 0, none⟩ = some (.slice none 0 0)) (first | exact d0 | exact d1) (fail)
    have hc : (wr.setCell ⟨w.heap.size, 0, none⟩ (.slice none 0 0)).drew.cell? ⟨w.heap.size, 0, none⟩ = some (.slice none 0 0) := d1
    go_wp2
    refine bodyPost_ret (results_tmp_cell rfl _ _ _ ⟨w.heap.size, 0, none⟩ (.slice none 0 0) rfl (run_isAgg_plain Tryz.underlying23 rfl _) hc) rfl ?_
    go_simp
    exact ⟨rfl, B2.out⟩
theorem keep_nil (c : Nat) (w : World) : Calls Tryz.prog 42 #[.slice none 0 c] w fun e w' => e = .returned (.slice none 0 0) ∧ Below w.heap.size w w' := by
  have h := parted_nil c w
  go_enter Tryz.func42, Tryz.ntmps42
  go_wp2_with fail
  refine h.mono ?_
  rintro e w2 ⟨rfl, hb⟩
  clear h
  go_wp2
  go_ret
  exact ⟨rfl, hb⟩
theorem OutAt.grow {W W1 : World} {o b sp wr : Nat} {kept : Value} {sh : Bool} {row : Option Nat} (h : OutAt W o b sp kept sh wr) (hg : W.grownBy W1 row) (hr : row ≠ some o) : OutAt W1 o b sp kept sh wr := (hg.block o h.lt (fun e => hr e.symm)).trans h
theorem own_not_o {o n : Nat} (h : o < n) : (Value.slice (some ⟨n, 0, none⟩) 0 0).ownBlock ≠ some o := by
  simp [Value.ownBlock]
  omega
theorem own_not_o2 {o n m : Nat} {v : Value} (ht : ∀ k, v.ownBlock = some k → (Value.slice (some ⟨n, 0, none⟩) 0 0).ownBlock = some k ∨ m ≤ k) (h : o < n) (h2 : n ≤ m) : v.ownBlock ≠ some o := fun e => by
  rcases ht o e with h3 | h3
  · exact own_not_o h h3
  · omega
set_option maxHeartbeats 4000000 in
set_option maxRecDepth 100000 in
theorem out_end (B o b sz x wr cl : Nat) (w : World) (h : OutAt w o b x (.slice (some ⟨o, 2, none⟩) 1 1) false wr) (he : EncAt w B b 1 sz sz false) (hsz : sz ≤ 1000) (hwr : wr ≤ 1000) (hB : B ≤ o) :
    Calls Tryz.prog 26 #[.pointer (some ⟨o, 0, none⟩), .slice none 0 cl] w fun e w' => ∃ v, e = .returned (.tuple #[v, .int .i64 0]) ∧ RowD w' w.heap.size v [(x : Int)] ∧ Below B w w' ∧ KeepR w w' := by
  have HH := Aside0.mk h
  have HE := Aside0.mk he
  have c4 := h.c4
  have HK := Aside0.mk (fun W => keep_nil cl W)
  have HEN := Aside0.mk (fun W (hb : Below w.heap.size w W) => enc_end1D B b sz sz 0 W (he.below hb) rfl (by omega))
  have HLO := Aside0.mk h.lt
  clear h he
  go_enter Tryz.func26, Tryz.ntmps26
  go_upto_region 3 with (fail)
  have BC := Aside0.mk (below_drew (Below.refl w.heap.size w))
  have d0 := (HH.out.below BC.out).c0
  go_region_held3 (fun W => W.cell? ⟨o, 0, none⟩ = some (.pointer (some ⟨b, 0, none⟩))) (first | exact d0 | exact y0)
    (first
      | (go_at_call 42; refine (HK.out _).mono ?_; rintro e w2 ⟨rfl, hb2⟩; have B2 := Aside0.mk (BC.out.trans (hb2.mono BC.out.size)); have d0 := (HH.out.below B2.out).c0; clear hb2)
      | (go_at_call 10; refine (HEN.out _ B2.out).mono ?_; rintro e w3 ⟨rfl, hb3, hk3⟩; have B3 := Aside0.mk ((B2.out.mono (Nat.le_trans hB (Nat.le_of_lt HLO.out))).trans hb3); have K3 := Aside0.mk hk3; have y0 := ((HH.out.below B2.out).keep hk3 (by decide)).c0; clear hb3 hk3))
  have HO3 := Aside0.mk ((HH.out.below B2.out).keep K3.out (by decide))
  have KR3 := Aside0.mk ((KeepR.of_below B2.out).trans (K3.out.row (by decide)))
  have k3 := HO3.out.c3
  have hlo3 : o < w3.heap.size := HO3.out.lt
  have HWW := Aside0.mk (show w.heap.size ≤ w3.heap.size from B3.out.size)
  clear c4 d0 y0
  go_upto_region 6 with (fail)
  have HE4 := Aside0.mk (show RowD (w3.alloc (.cells #[] 5)) w3.heap.size (.slice (some ⟨w3.heap.size, 0, none⟩) 0 0) [] from
    ⟨rfl, .inr ⟨w3.heap.size, 0, #[], rfl, Nat.le_refl _, World.alloc_heap_new w3 _, Nat.le_refl _, Nat.zero_le _, rfl, rfl⟩⟩)
  have hb4 : Below w3.heap.size w3 (w3.alloc (.cells #[] 5)) := below_alloc (Below.refl _ _) _
  have HB4 := Aside0.mk hb4
  have HO4 := Aside0.mk (HO3.out.below hb4)
  have HC4 := Aside0.mk (show Kd.C (Kd.int .u8) (w3.alloc (.cells #[] 5)) (some ⟨o, 2, none⟩) ([(x : Int)] : List Int).length [(x : Int)] by
    refine ⟨rfl, by show 1 ≤ 9223372036854775807; decide, fun _ => ⟨_, rfl, fun j y hy => ⟨[.int .u8 y], rfl, rfl, fun i u hu => ?_⟩⟩⟩
    rcases j with _ | j
    · cases hy
      rcases i with _ | i
      · cases hu
        exact HO4.out.c2
      · simp at hu
    · simp at hy)
  have k4 := HO4.out.c3
  have HS4 : w3.heap.size ≤ (w3.alloc (.cells #[] 5)).heap.size := hb4.size
  have hl4 : ([] : List Int).length + ([(x : Int)] : List Int).length ≤ 140737488355328 := by show 0 + 1 ≤ _; decide
  have hl5 : ([] ++ [(x : Int)] : List Int).length + ([] : List Int).length ≤ 140737488355328 := by show 1 + 0 ≤ _; decide
  clear hb4 k3
  go_wp2_with (first
    | ((with_reducible refine gate_builtin (b := .append) (xs := #[.tmp 25, .tmp 29]) rfl ?_); at_builtin; refine list_plusD w3.heap.size rfl (.tmp 25) (.tmp 29) 25 (.int .u8 0) rfl Tryz.underlying25 info5 rfl (.slice (some ⟨w3.heap.size, 0, none⟩) 0 0) ([] : List Int) [(x : Int)] (some ⟨o, 2, none⟩) 1 rfl rfl HE4.out HC4.out HS4 hl4 ?_; intro v5 w5 hr5 hb5 hg5 hat5; obtain ⟨A5, c5, rfl, _, _⟩ := hr5.reads; have HR5 := Aside0.mk hr5; have HB5 := Aside0.mk hb5; have HG5 := Aside0.mk hg5; have HT5 := Aside0.mk hat5; clear hr5 hb5 hg5 hat5)
    | ((with_reducible refine gate_builtin (b := .append) (xs := #[.tmp 30, .tmp 31]) rfl ?_); at_builtin; refine list_plusD w3.heap.size rfl (.tmp 30) (.tmp 31) 25 (.int .u8 0) rfl Tryz.underlying25 info5 rfl (.slice A5 ([] ++ [(x : Int)] : List Int).length c5) ([] ++ [(x : Int)] : List Int) ([] : List Int) none 0 rfl rfl HR5.out ⟨rfl, Nat.zero_le _, fun h => absurd h (Nat.lt_irrefl _)⟩ (Nat.le_trans HS4 HB5.out.size) hl5 ?_; intro v6 w6 hr6 hb6 hg6 hat6; obtain ⟨A6, c6, rfl, _, _⟩ := hr6.reads; have HR6 := Aside0.mk hr6; have HB6 := Aside0.mk hb6; have HO6 := Aside0.mk ((HO4.out.grow HG5.out (own_not_o hlo3)).grow hg6 (own_not_o2 HT5.out hlo3 HS4)); have k36 := HO6.out.c3; have z36 := HO6.out.fz 3; have k46 := HO6.out.c4; have z46 := HO6.out.fz 4; have HO7 := Aside0.mk ((HO6.out.s3 (.slice none 0 0)).s4 true); have HT7 := Aside0.mk ((HO6.out.turn 3 (.slice none 0 0)).trans ((HO6.out.s3 (.slice none 0 0)).turn 4 (.bool true))); have HB7 := Aside0.mk (show Below B w6 ((w6.setCell ⟨o, 3, none⟩ (.slice none 0 0)).setCell ⟨o, 4, none⟩ (.bool true)) from ((Below.refl B w6).setCell (p := ⟨o, 3, none⟩) hB _).setCell (p := ⟨o, 4, none⟩) hB _); clear hr6 hb6 hg6 hat6))
  obtain ⟨W7, hW7⟩ : ∃ W7, ((w6.setCell ⟨o, 3, none⟩ (.slice none 0 0)).setCell ⟨o, 4, none⟩ (.bool true)) = W7 := ⟨_, rfl⟩
  rw [hW7] at HO7 HT7 HB7 ⊢
  clear hW7 k36 z36 k46 z46
  refine (out_count o b x wr (.slice none 0 0) true A6 1 c6 W7 HO7.out (by omega)).mono ?_
  rintro e w8 ⟨rfl, rfl⟩
  go_wp2
  go_ret2
  have ht8 := HO7.out.turn 5 (.int .i64 ((wr + 1 : Nat) : Int))
  have hr8 : RowD W7 w3.heap.size (.slice A6 1 c6) [(x : Int)] := HR6.out.keep (HT7.out.row (by decide))
  have hb7 : Below B w W7 := (((B3.out.trans (HB4.out.mono (Nat.le_trans hB (Nat.le_of_lt hlo3)))).trans (HB5.out.mono (Nat.le_trans hB (Nat.le_of_lt hlo3)))).trans (HB6.out.mono (Nat.le_trans hB (Nat.le_of_lt hlo3)))).trans HB7.out
  exact ⟨_, rfl, (hr8.keep (ht8.row (by decide))).base HWW.out, hb7.setCell (p := ⟨o, 5, none⟩) hB _, ((KR3.out.trans (KeepR.of_below ((HB4.out.trans HB5.out).trans HB6.out))).trans (HT7.out.row (by decide))).trans (ht8.row (by decide))⟩
end Go.Proofs.YtmmbpbgcobmifaaGreatDoorH
end
section
namespace Go.Proofs.YtmmbpbgcobmifaaGreatDoorH
open Go.RowKit Go.Proofs.YtmmbpbgcobmifaaGreatDoorW.PrintWords Go.Proofs.YtmmbpbgcobmifaaGreatDoorW.PrintLast Go.Proofs.YtmmbpbgcobmifaaGreatDoorW.PrintMore
def IsR (W : World) (b : Nat) (A : Option Addr) (n c : Nat) (e0 e1 e2 : Int) (at_ : Nat) (dv : Value) : Prop :=
  W.heap[b]? = some (.cells #[.slice A n c, .int .i64 e0, .int .i64 e1, .int .i64 e2, .int .i64 at_, dv] 72 (0, 0))
section
variable {W : World} {b : Nat} {A : Option Addr} {n c : Nat} {e0 e1 e2 : Int} {at_ : Nat} {dv : Value}
theorem IsR.c0 (h : IsR W b A n c e0 e1 e2 at_ dv) : W.cell? ⟨b, 0, none⟩ = some (.slice A n c) := (blk_cell h 0).trans rfl
theorem IsR.c1 (h : IsR W b A n c e0 e1 e2 at_ dv) : W.cell? ⟨b, 1, none⟩ = some (.int .i64 e0) := (blk_cell h 1).trans rfl
theorem IsR.c4 (h : IsR W b A n c e0 e1 e2 at_ dv) : W.cell? ⟨b, 4, none⟩ = some (.int .i64 at_) := (blk_cell h 4).trans rfl
theorem IsR.c5 (h : IsR W b A n c e0 e1 e2 at_ dv) : W.cell? ⟨b, 5, none⟩ = some dv := (blk_cell h 5).trans rfl
theorem IsR.fz (h : IsR W b A n c e0 e1 e2 at_ dv) (j : Nat) : W.frozen? ⟨b, j, none⟩ = false := blk_frozen h j
theorem IsR.lt (h : IsR W b A n c e0 e1 e2 at_ dv) : b < W.heap.size := blk_lt h
theorem IsR.s4 (h : IsR W b A n c e0 e1 e2 at_ dv) (x : Nat) : IsR (W.setCell ⟨b, 4, none⟩ (.int .i64 (x : Int))) b A n c e0 e1 e2 x dv := by unfold IsR; simpa using blk_set h 4 (.int .i64 (x : Int))
theorem IsR.below {W' : World} (h : IsR W b A n c e0 e1 e2 at_ dv) (hb : Below W.heap.size W W') : IsR W' b A n c e0 e1 e2 at_ dv := blk_below h hb
end
def gaveUp (at_ : Nat) (er : Int) : Ending := .panicked [{ v := .iface 74 (.agg #[.int .i64 at_, .int .i64 er]), recovered := false }]
set_option maxHeartbeats 1600000 in
set_option maxRecDepth 100000 in
theorem must_on (b : Nat) (er : Int) (w : World) :
    Calls Tryz.prog 50 #[.pointer (some ⟨b, 0, none⟩), .bool true, .int .i64 er] w fun e w' => e = .returned (.tuple #[]) ∧ w' = w := by
  go_enter Tryz.func50, Tryz.ntmps50
  go_wp2
  go_end0
  exact ⟨rfl, rfl⟩
set_option maxHeartbeats 1600000 in
set_option maxRecDepth 100000 in
theorem must_off (b at_ : Nat) (er : Int) (w : World) (hc : w.cell? ⟨b, 4, none⟩ = some (.int .i64 at_)) :
    Calls Tryz.prog 50 #[.pointer (some ⟨b, 0, none⟩), .bool false, .int .i64 er] w fun e w' => e = gaveUp at_ er ∧ w' = w := by
  have hbd : ∀ W : World, (Instr.build 74 #[(0, .int .i64 at_), (1, .int .i64 er)]).run Tryz.prog W = .ok (.agg #[.int .i64 at_, .int .i64 er]) W := fun _ => by kernel_rfl
  go_enter Tryz.func50, Tryz.ntmps50
  go_wp2
  exact ⟨rfl, rfl, rfl⟩
set_option maxHeartbeats 1600000 in
set_option maxRecDepth 100000 in
theorem here_on (b : Nat) (A : Option Addr) (n c : Nat) (e0 e1 e2 : Int) (at_ : Nat) (dv : Value) (s : List Int) (w : World) (h : IsR w b A n c e0 e1 e2 at_ dv) (hC : Kd.C (Kd.int .u8) w A n s) (hlt : at_ < n) :
    Calls Tryz.prog 58 #[.pointer (some ⟨b, 0, none⟩)] w fun e w' => e = .returned (.int .u8 (s.getD at_ 0)) ∧ Drawn0 w w' := by
  have k0 := h.c0
  have k4 := h.c4
  obtain ⟨ad, cs, eA, _, hK, hc0⟩ := Kd.C_get hC 0 (at_ : Int) (by omega) (by omega)
  have hc : ∀ j u, cs[j]? = some u → w.cell? (ad.add ((at_ : Int).toNat * 1 + j)) = some u := hc0
  have hK : cs = [.int .u8 (s.getD (at_ : Int).toNat 0)] := hK
  subst eA hK
  rw [Int.toNat_natCast] at hc
  have kc : w.cell? (ad.add at_) = some (.int .u8 (s.getD at_ 0)) := by
    have := hc 0 _ rfl
    rwa [Nat.mul_one, Nat.add_zero] at this
  have hlt1 : (at_ : Int) < (n : Int) := by omega
  have hge1 : (0 : Int) ≤ (at_ : Int) := by omega
  generalize s.getD at_ 0 = x at *
  clear h hC hc hc0
  go_enter Tryz.func58, Tryz.ntmps58
  go_wp2_with fail
  go_region_held3 (fun W => W.cell? ⟨b, 0, none⟩ = some (.slice (some ad) n c) ∧ W.cell? ⟨b, 4, none⟩ = some (.int .i64 at_)) (exact ⟨k0, k4⟩) (first | (go_at_call 50; refine (must_on _ _ _).mono ?_; rintro e w4 ⟨rfl, rfl⟩))
  go_wp2_with fail
  go_region_held3 (fun W => W.cell? ⟨b, 0, none⟩ = some (.slice (some ad) n c) ∧ W.cell? ⟨b, 4, none⟩ = some (.int .i64 at_) ∧ W.cell? (ad.add at_) = some (.int .u8 x)) (exact ⟨k0, k4, kc⟩) (fail)
  go_wp2
  go_ret
  exact ⟨rfl, ⟨⟨2, rfl⟩⟩⟩
set_option maxHeartbeats 1600000 in
set_option maxRecDepth 100000 in
theorem here_off (b : Nat) (A : Option Addr) (n c : Nat) (e0 e1 e2 : Int) (at_ : Nat) (dv : Value) (w : World) (h : IsR w b A n c e0 e1 e2 at_ dv) (hge : n ≤ at_) :
    Calls Tryz.prog 58 #[.pointer (some ⟨b, 0, none⟩)] w fun e w' => e = gaveUp at_ 4 ∧ Drawn0 w w' := by
  have k0 := h.c0
  have k4 := h.c4
  have hlt1 : ¬ (at_ : Int) < (n : Int) := by omega
  have hlt2 : decide ((at_ : Int) < (n : Int)) = false := decide_eq_false hlt1
  clear h
  go_enter Tryz.func58, Tryz.ntmps58
  go_upto_region 1 with (fail)
  refine wp_region_held_drew (S := (fun W => W.cell? ⟨b, 0, none⟩ = some (.slice A n c) ∧ W.cell? ⟨b, 4, none⟩ = some (.int .i64 at_))) (by kernel_rfl) ?_ (fun hHeld => ?_)
  · exact ⟨k0, k4⟩
  refine take_at (i := 0) (take_d rfl) ?_
  intro h_i
  refine wpAnyH_take (v := ?_) h_i (by kernel_rfl) (by kernel_rfl) (by kernel_rfl) (fun _ _ _ h => h) (Or.inl ⟨by rfl, ?_⟩) (by assumption) ?_
  case refine_2 => (intro w hSw; (try dsimp only at hSw); go_simp; (try with_reducible rfl))
  clear h_i
  try simp only [Act.put, List.setIfInBounds_toArray, List.set_cons_zero, List.set_cons_succ]
  refine take_at (i := 1) (take_d rfl) ?_
  intro h_i
  refine wpAnyH_take (v := ?_) h_i (by kernel_rfl) (by kernel_rfl) (by kernel_rfl) (fun _ _ _ h => h) (Or.inl ⟨by rfl, ?_⟩) (by assumption) ?_
  case refine_2 => (intro w hSw; (try dsimp only at hSw); go_simp; (try with_reducible rfl))
  clear h_i
  try simp only [Act.put, List.setIfInBounds_toArray, List.set_cons_zero, List.set_cons_succ]
  refine take_at (i := 2) (take_d rfl) ?_
  intro h_i
  refine wpAnyH_take (v := ?_) h_i (by kernel_rfl) (by kernel_rfl) (by kernel_rfl) (fun _ _ _ h => h) (Or.inl ⟨by rfl, ?_⟩) (by assumption) ?_
  case refine_2 => (intro w hSw; (try dsimp only at hSw); go_simp; (try with_reducible rfl))
  clear h_i
  try simp only [Act.put, List.setIfInBounds_toArray, List.set_cons_zero, List.set_cons_succ]
  refine take_at (i := 3) (take_d rfl) ?_
  intro h_i
  refine wpAnyH_take (v := ?_) h_i (by kernel_rfl) (by kernel_rfl) (by kernel_rfl) (fun _ _ _ h => h) (Or.inl ⟨by rfl, ?_⟩) (by assumption) ?_
  case refine_2 => (intro w hSw; (try dsimp only at hSw); go_simp; (try with_reducible rfl))
  clear h_i
  try simp only [Act.put, List.setIfInBounds_toArray, List.set_cons_zero, List.set_cons_succ]
  refine take_at (i := 4) (take_d rfl) ?_
  intro h_i
  refine wpAnyH_take (v := ?_) h_i (by kernel_rfl) (by kernel_rfl) (by kernel_rfl) (fun _ _ _ h => h) (Or.inl ⟨by rfl, ?_⟩) (by assumption) ?_
  case refine_2 => (intro w hSw; (try dsimp only at hSw); go_simp; (try with_reducible rfl))
  clear h_i
  try simp only [Act.put, List.setIfInBounds_toArray, List.set_cons_zero, List.set_cons_succ]
  refine take_at (i := 5) (take_d rfl) ?_
  intro h_i
  refine wpAnyH_take (v := ?_) h_i (by kernel_rfl) (by kernel_rfl) (by kernel_rfl) (fun _ _ _ h => h) (Or.inl ⟨by rfl, ?_⟩) (by assumption) ?_
  case refine_2 => (intro w hSw; (try dsimp only at hSw); go_simp; (try with_reducible rfl))
  clear h_i
  try simp only [Act.put, List.setIfInBounds_toArray, List.set_cons_zero, List.set_cons_succ]
  refine take_at (i := 6) (take_d rfl) ?_
  intro h_i
  refine wpAnyH_take (v := ?_) h_i (by kernel_rfl) (by kernel_rfl) (by kernel_rfl) (fun _ _ _ h => h) (Or.inl ⟨by rfl, ?_⟩) (by assumption) ?_
  case refine_2 => (intro w hSw; (try dsimp only at hSw); go_simp; (try with_reducible rfl))
  clear h_i
  try simp only [Act.put, List.setIfInBounds_toArray, List.set_cons_zero, List.set_cons_succ]
  refine take_at (i := 7) (take_d rfl) ?_
  intro h_i
  refine wpAnyH_take (v := ?_) h_i (by kernel_rfl) (by kernel_rfl) (by kernel_rfl) (fun _ _ _ h => h) (Or.inl ⟨by rfl, ?_⟩) (by assumption) ?_
  case refine_2 => (intro w hSw; (try dsimp only at hSw); go_simp; (try with_reducible rfl))
  clear h_i
  try simp only [Act.put, List.setIfInBounds_toArray, List.set_cons_zero, List.set_cons_succ]
  refine take_at (i := 8) (take_d rfl) ?_
  intro h_i
  refine wpAnyH_take (v := ?_) h_i (by kernel_rfl) (by kernel_rfl) (by kernel_rfl) (fun _ _ _ h => h) (Or.inl ⟨by rfl, ?_⟩) (by assumption) ?_
  case refine_2 => (intro w hSw; (try dsimp only at hSw); go_simp; (try with_reducible rfl))
  clear h_i
  try simp only [Act.put, List.setIfInBounds_toArray, List.set_cons_zero, List.set_cons_succ]
  refine take_at (i := 9) (take_d rfl) ?_
  intro h_i
  refine wpAnyH_take (v := ?_) h_i (by kernel_rfl) (by kernel_rfl) (by kernel_rfl) (fun _ _ _ h => h) (Or.inl ⟨by rfl, ?_⟩) (by assumption) ?_
  case refine_2 => (intro w hSw; (try dsimp only at hSw); go_simp; (try with_reducible rfl))
  clear h_i
  try simp only [Act.put, List.setIfInBounds_toArray, List.set_cons_zero, List.set_cons_succ]
  refine take_at (i := 10) (take_d rfl) ?_
  intro h_i
  refine wpAnyH_take (v := ?_) h_i (by kernel_rfl) (by kernel_rfl) (by kernel_rfl) (fun _ _ _ h => h) (Or.inl ⟨by rfl, ?_⟩) (by assumption) ?_
  case refine_2 => (intro w hSw; (try dsimp only at hSw); go_simp; (try with_reducible rfl))
  clear h_i
  try simp only [Act.put, List.setIfInBounds_toArray, List.set_cons_zero, List.set_cons_succ]
  refine wpAnyH_ready (rs := [11]) (by kernel_rfl) (by simp) ?_
  refine AllReadyH.cons (take_d rfl) (fun zK hK => ?_) AllReadyH.nil
  go_simp
  refine (must_off b at_ 4 _ hHeld.2).mono ?_
  rintro e w4 ⟨rfl, rfl⟩
  unfold gaveUp
  go_simp
  exact ⟨rfl, rfl, ⟨⟨1, rfl⟩⟩⟩
abbrev RM (α : Type) := Except (Nat × Int) (α × Nat)
def byteM (s : List Int) (c : Int) (a : Nat) : RM Unit := if a < s.length then (if s.getD a 0 = c then .ok ((), a + 1) else .error (a, 2)) else .error (a, 4)
def endM (s : List Int) (a : Nat) : RM Unit := match byteM s 13 a with
  | .ok (_, a1) => byteM s 10 a1
  | .error x => .error x
def Does {α : Type} (w : World) (b : Nat) (A : Option Addr) (n c : Nat) (e0 e1 e2 : Int) (dv : Value) (enc : α → Value) (m : RM α) (e : Ending) (w' : World) : Prop :=
  match m with
  | .ok (x, a) => e = .returned (enc x) ∧ IsR w' b A n c e0 e1 e2 a dv ∧ Only b w w'
  | .error (a, er) => e = gaveUp a er ∧ IsR w' b A n c e0 e1 e2 a dv ∧ Only b w w'
set_option maxHeartbeats 1600000 in
set_option maxRecDepth 100000 in
theorem byte_does (b : Nat) (A : Option Addr) (c : Nat) (e0 e1 e2 : Int) (a : Nat) (dv : Value) (s : List Int) (x : Int) (w : World) (h : IsR w b A s.length c e0 e1 e2 a dv) (hC : Kd.C (Kd.int .u8) w A s.length s) :
    Calls Tryz.prog 61 #[.pointer (some ⟨b, 0, none⟩), .int .u8 x] w (Does w b A s.length c e0 e1 e2 dv (fun _ : Unit => .tuple #[]) (byteM s x a)) := by
  have hmax : s.length ≤ 9223372036854775807 := hC.2.1
  have HH := Aside0.mk h
  unfold byteM
  by_cases hlt : a < s.length
  · rw [if_pos hlt]
    have hh := here_on b A _ c e0 e1 e2 a dv s w h hC hlt
    generalize s.getD a 0 = y at *
    have HF := Aside0.mk (fun w2 (hd : Drawn0 w w2) => (⟨(h.below hd.below).c4, (h.below hd.below).fz 4⟩ : w2.cell? ⟨b, 4, none⟩ = some (.int .i64 a) ∧ w2.frozen? ⟨b, 4, none⟩ = false))
    by_cases hxy : y = x
    · rw [if_pos hxy]
      subst hxy
      have hw1 : IntKind.i64.wrap ((a : Int) + 1) = ((a + 1 : Nat) : Int) := by
        unfold IntKind.wrap
        simp [IntKind.bits, IntKind.signed]
        omega
      obtain ⟨m, hm⟩ : ∃ m, a + 1 = m := ⟨_, rfl⟩
      rw [hm] at hw1
      rw [hm]
      clear h hC hm
      go_enter Tryz.func61, Tryz.ntmps61
      go_wp2_with fail
      refine hh.mono ?_
      rintro e w2 ⟨rfl, hd⟩
      have d4 := (HF.out w2 hd).1
      have z4 := (HF.out w2 hd).2
      have HD := Aside0.mk hd
      clear hh hd
      go_wp2_with fail
      refine (must_on b 2 w2).mono ?_
      rintro e w3 ⟨rfl, rfl⟩
      go_wp2
      go_end0
      exact ⟨rfl, (HH.out.below HD.out.below).s4 m, (Only.drawn HD.out (Nat.le_of_lt HH.out.lt)).trans (Only.set _ 4 _)⟩
    · rw [if_neg hxy]
      have hne : (y == x) = false := by rw [beq_eq_false_iff_ne]; exact hxy
      clear h hC
      go_enter Tryz.func61, Tryz.ntmps61
      go_wp2_with fail
      refine hh.mono ?_
      rintro e w2 ⟨rfl, hd⟩
      have HM := must_off b a 2 w2 (HF.out w2 hd).1
      have HD := Aside0.mk hd
      clear hh hd
      go_wp2_with fail
      refine HM.mono ?_
      rintro e w3 ⟨rfl, rfl⟩
      exact ⟨rfl, rfl, HH.out.below HD.out.below, Only.drawn HD.out (Nat.le_of_lt HH.out.lt)⟩
  · rw [if_neg hlt]
    have hh := here_off b A _ c e0 e1 e2 a dv w h (by omega)
    clear h hC
    go_enter Tryz.func61, Tryz.ntmps61
    go_wp2_with fail
    refine hh.mono ?_
    rintro e w2 ⟨rfl, hd⟩
    exact ⟨rfl, rfl, HH.out.below hd.below, Only.drawn hd (Nat.le_of_lt HH.out.lt)⟩
set_option maxHeartbeats 1600000 in
set_option maxRecDepth 100000 in
theorem end_does (b : Nat) (A : Option Addr) (c : Nat) (e0 e1 e2 : Int) (a : Nat) (dv : Value) (s : List Int) (w : World) (h : IsR w b A s.length c e0 e1 e2 a dv) (hC : Keeps b w fun W => Kd.C (Kd.int .u8) W A s.length s) :
    Calls Tryz.prog 49 #[.pointer (some ⟨b, 0, none⟩)] w (Does w b A s.length c e0 e1 e2 dv (fun _ : Unit => .tuple #[]) (endM s a)) := by
  have h1 := byte_does b A c e0 e1 e2 a dv s 13 w h hC.here
  have HK := Aside0.mk hC
  clear h hC
  unfold endM
  cases hm : byteM s 13 a with
  | error x =>
    obtain ⟨a1, er⟩ := x
    rw [hm] at h1
    go_enter Tryz.func49, Tryz.ntmps49
    go_wp2_with fail
    refine h1.mono ?_
    rintro e w2 ⟨rfl, hi, ho⟩
    exact ⟨rfl, rfl, hi, ho⟩
  | ok x =>
    obtain ⟨u, a1⟩ := x
    rw [hm] at h1
    have H2 := Aside0.mk (fun w2 (hi : IsR w2 b A s.length c e0 e1 e2 a1 dv) (ho : Only b w w2) => byte_does b A c e0 e1 e2 a1 dv s 10 w2 hi (HK.out w2 ho.1))
    show Calls _ _ _ _ (Does w b A s.length c e0 e1 e2 dv _ (byteM s 10 a1))
    cases hm2 : byteM s 10 a1 with
    | error x =>
      obtain ⟨a2, er⟩ := x
      rw [hm2] at H2
      clear hm hm2
      go_enter Tryz.func49, Tryz.ntmps49
      go_wp2_with fail
      refine h1.mono ?_
      rintro e w2 ⟨rfl, hi, ho⟩
      have h2 := H2.out w2 hi ho
      have HO := Aside0.mk ho
      clear h1 hi ho
      go_wp2_with fail
      refine h2.mono ?_
      rintro e w3 ⟨rfl, hi3, ho3⟩
      exact ⟨rfl, rfl, hi3, HO.out.trans ho3⟩
    | ok x =>
      obtain ⟨u2, a2⟩ := x
      rw [hm2] at H2
      clear hm hm2
      go_enter Tryz.func49, Tryz.ntmps49
      go_wp2_with fail
      refine h1.mono ?_
      rintro e w2 ⟨rfl, hi, ho⟩
      have h2 := H2.out w2 hi ho
      have HO := Aside0.mk ho
      clear h1 hi ho
      go_wp2_with fail
      refine h2.mono ?_
      rintro e w3 ⟨rfl, hi3, ho3⟩
      have HI := Aside0.mk hi3
      have HO3 := Aside0.mk ho3
      clear h2 hi3 ho3
      go_wp2
      go_end0
      exact ⟨rfl, HI.out, HO.out.trans HO3.out⟩
end Go.Proofs.YtmmbpbgcobmifaaGreatDoorH
end
section
namespace Go.Proofs.YtmmbpbgcobmifaaGreatDoor.Pr
open Go.RowKit Go.Proofs.YtmmbpbgcobmifaaGreatDoorH Go.Proofs.YtmmbpbgcobmifaaGreatDoorW.PrintWords Go.Proofs.YtmmbpbgcobmifaaGreatDoorW.PrintLast Go.Proofs.YtmmbpbgcobmifaaGreatDoorW.PrintMore
attribute [local go_sem] max2_int min2_int max_two min_two max_three min_three max_four min_four   -- for this text's walks alone
set_option linter.unusedVariables false
set_option linter.unusedSimpArgs false
def hexa_Digit.j0 : Nat → Int → Bool → Option (Int)
  | 0, _, _ => none
  | k + 1, x0, x3 => if x3 = true then (some ((x0 - 48) % 256)) else (if (Go.bits .or .u8 x0 32) ≥ 97 then (if (Go.bits .or .u8 x0 32) ≤ 102 then (some ((((Go.bits .or .u8 x0 32) - 97) % 256) + 10)) else (some (-1))) else (some (-1)))
def hexa_Digit.f (k : Nat) (a0 : Int) : Option (Int) := if a0 ≥ 48 then (hexa_Digit.j0 k a0 (decide (a0 ≤ 57))) else (hexa_Digit.j0 k a0 false)
theorem hexa_Digit.mono_l : ∀ k, (∀ y0 y1, LeO (hexa_Digit.j0 k y0 y1) (hexa_Digit.j0 (k + 1) y0 y1))
  | 0 => fun _ _ r h => by simp [hexa_Digit.j0] at h
  | k + 1 => by
    have ih0 := hexa_Digit.mono_l k
    · intro y0 y1
      unfold hexa_Digit.j0
      repeat' first
      | (with_reducible exact ih0 _ _)
      | (with_reducible exact LeO.refl _)
      | (with_reducible exact LeO.none _)
      | (with_reducible refine LeO.ite ?_ ?_)
      | (with_reducible refine LeO.bind ?_ (fun _ => ?_))
      | exact ih0 _ _
      | exact LeO.none _
      | refine LeO.ite ?_ ?_
      | refine LeO.bind ?_ (fun _ => ?_)
theorem hexa_Digit.mono : ∀ a0 k, LeO (hexa_Digit.f k a0) (hexa_Digit.f (k + 1) a0) := by
  intro a0 k
  have ih0 := hexa_Digit.mono_l k
  unfold hexa_Digit.f
  repeat' first
      | (with_reducible exact ih0 _ _)
      | (with_reducible exact LeO.refl _)
      | (with_reducible exact LeO.none _)
      | (with_reducible refine LeO.ite ?_ ?_)
      | (with_reducible refine LeO.bind ?_ (fun _ => ?_))
      | exact ih0 _ _
      | exact LeO.none _
      | refine LeO.ite ?_ ?_
      | refine LeO.bind ?_ (fun _ => ?_)
set_option maxHeartbeats 8000000 in
set_option maxRecDepth 100000 in
theorem hexa_Digit.calls (k : Nat) (a0 : Int) (r : Int) (w : World) (hG : TabOk w) (h : hexa_Digit.f k a0 = some r) :
    Calls Tryz.prog 57 #[.int .u8 a0] w fun e w' => e = .returned (.int .i64 r) ∧ Drawn0 w w' := by
  have H : (if a0 ≥ 48 then (hexa_Digit.j0 k a0 (decide (a0 ≤ 57))) else (hexa_Digit.j0 k a0 false)) = some r := h
  clear h
  have HC2 := Aside0.mk H
  clear H
  go_enter Tryz.func57, Tryz.ntmps57
  go_upto_region 1 with (fail)
  go_cut [3] (fun v3 wc => ∃ (kq : Nat) (x3_1 : Bool), v3 = .bool x3_1 ∧ Aside0 (hexa_Digit.j0 kq a0 x3_1 = some r) ∧ Aside0 (kq ≤ k) ∧ Drawn0 w wc)
  case first =>
    have H := HC2.out
    clear HC2
    by_cases c3 : a0 ≥ 48
    · rw [if_pos c3] at H
      have c3b0 : decide (48 ≤ a0) = true := decide_eq_true c3
      clear c3
      (first | rw [c3b0] | (simp only [i64_w, i32_w]; rw [c3b0]) | skip)
      have H' := Aside0.mk H
      clear H
      go_wp2
      go_meet
      case rel => exact ⟨_, (decide (a0 ≤ 57)), (by first | rfl | (simp; done) | (simp [*]; done)), H', ⟨by first | omega | exact Nat.le_refl _⟩, by repeat (first | exact Drawn0.refl _ | apply Drawn0.step)⟩
    · rw [if_neg c3] at H
      have c3b0 : decide (48 ≤ a0) = false := decide_eq_false c3
      clear c3
      (first | rw [c3b0] | (simp only [i64_w, i32_w]; rw [c3b0]) | skip)
      have H' := Aside0.mk H
      clear H
      go_wp2
      go_meet
      case rel => exact ⟨_, (false), (by first | rfl | (simp; done) | (simp [*]; done)), H', ⟨by first | omega | exact Nat.le_refl _⟩, by repeat (first | exact Drawn0.refl _ | apply Drawn0.step)⟩
  case rest =>
    clear HC2
    try clear p2
    try clear c3
    try clear c3b0
    obtain ⟨kq, x3_1, rfl, HA, HJ1, ⟨mc1, rfl⟩⟩ := hcut
    cases kq with
    | zero => exact absurd HA.out (by simp [hexa_Digit.j0])
    | succ kj1 =>
      have H := HA.out
      clear HA
      simp only [hexa_Digit.j0] at H
      by_cases c4 : x3_1 = true
      · subst c4
        have H1 : (some ((a0 - 48) % 256)) = some r := by rw [if_pos rfl] at H; exact H
        clear H
        have H := H1
        clear H1
        obtain rfl := Option.some.inj H
        go_wp2
        go_ret
        exact ⟨by first | rfl | (simp; done) | (simp [*]; done), by repeat (first | exact Drawn0.refl _ | apply Drawn0.step)⟩
      · replace c4 := Bool.eq_false_iff.mpr c4
        subst c4
        have H1 : (if (Go.bits .or .u8 a0 32) ≥ 97 then (if (Go.bits .or .u8 a0 32) ≤ 102 then (some ((((Go.bits .or .u8 a0 32) - 97) % 256) + 10)) else (some (-1))) else (some (-1))) = some r := by rw [if_neg (show ¬ (false = true) by decide)] at H; exact H
        clear H
        have H := H1
        clear H1
        by_cases c5 : (Go.bits .or .u8 a0 32) ≥ 97
        · rw [if_pos c5] at H
          have c5b0 : decide (97 ≤ (Go.bits .or .u8 a0 32)) = true := decide_eq_true c5
          clear c5
          by_cases c6 : (Go.bits .or .u8 a0 32) ≤ 102
          · rw [if_pos c6] at H
            have c6b0 : decide ((Go.bits .or .u8 a0 32) ≤ 102) = true := decide_eq_true c6
            clear c6
            obtain rfl := Option.some.inj H
            go_wp2
            go_ret
            exact ⟨by first | rfl | (simp; done) | (simp [*]; done), by repeat (first | exact Drawn0.refl _ | apply Drawn0.step)⟩
          · rw [if_neg c6] at H
            have c6b0 : decide ((Go.bits .or .u8 a0 32) ≤ 102) = false := decide_eq_false c6
            clear c6
            obtain rfl := Option.some.inj H
            go_wp2
            go_ret
            exact ⟨by first | rfl | (simp; done) | (simp [*]; done), by repeat (first | exact Drawn0.refl _ | apply Drawn0.step)⟩
        · rw [if_neg c5] at H
          have c5b0 : decide (97 ≤ (Go.bits .or .u8 a0 32)) = false := decide_eq_false c5
          clear c5
          obtain rfl := Option.some.inj H
          go_wp2
          go_ret
          exact ⟨by first | rfl | (simp; done) | (simp [*]; done), by repeat (first | exact Drawn0.refl _ | apply Drawn0.step)⟩
end Go.Proofs.YtmmbpbgcobmifaaGreatDoor.Pr
end
section
namespace Go.Proofs.YtmmbpbgcobmifaaGreatDoor.Pr
open Go.RowKit Go.Proofs.YtmmbpbgcobmifaaGreatDoorH Go.Proofs.YtmmbpbgcobmifaaGreatDoorW.PrintWords Go.Proofs.YtmmbpbgcobmifaaGreatDoorW.PrintLast Go.Proofs.YtmmbpbgcobmifaaGreatDoorW.PrintMore
attribute [local go_sem] max2_int min2_int max_two min_two max_three min_three max_four min_four   -- for this text's walks alone
set_option linter.unusedVariables false
set_option linter.unusedSimpArgs false
def hexa_More.f (k : Nat) (a0 : Int) (a1 : Int) : Option (Int × Int) := (hexa_Digit.f k a1).bind fun t122 => (if t122 < 0 then (some (0, 2)) else (if a0 > (IntKind.u64.wrap (Int.tdiv (IntKind.u64.wrap (4611686018427387903 - (IntKind.u64.wrap (t122)))) 16)) then (some (0, 3)) else (some (IntKind.u64.wrap ((IntKind.u64.wrap (16 * a0)) + (IntKind.u64.wrap (t122))), 0))))
theorem hexa_More.mono : ∀ a0 a1 k, LeO (hexa_More.f k a0 a1) (hexa_More.f (k + 1) a0 a1) := by
  intro a0 a1 k
  unfold hexa_More.f
  repeat' first
      | (with_reducible exact hexa_Digit.mono _ _)
      | (with_reducible exact LeO.refl _)
      | (with_reducible exact LeO.none _)
      | (with_reducible refine LeO.ite ?_ ?_)
      | (with_reducible refine LeO.bind ?_ (fun _ => ?_))
      | exact hexa_Digit.mono _ _
      | exact LeO.none _
      | refine LeO.ite ?_ ?_
      | refine LeO.bind ?_ (fun _ => ?_)
set_option maxHeartbeats 8000000 in
set_option maxRecDepth 100000 in
theorem hexa_More.calls (k : Nat) (a0 : Int) (a1 : Int) (r1 : Int) (r2 : Int) (w : World) (hG : TabOk w) (h : hexa_More.f k a0 a1 = some (r1, r2)) :
    Calls Tryz.prog 59 #[.int .u64 a0, .int .u8 a1] w fun e w' => e = .returned (.tuple #[.int .u64 r1, .int .i64 r2]) ∧ Drawn0 w w' := by
  have H : ((hexa_Digit.f k a1).bind fun t122 => (if t122 < 0 then (some (0, 2)) else (if a0 > (IntKind.u64.wrap (Int.tdiv (IntKind.u64.wrap (4611686018427387903 - (IntKind.u64.wrap (t122)))) 16)) then (some (0, 3)) else (some (IntKind.u64.wrap ((IntKind.u64.wrap (16 * a0)) + (IntKind.u64.wrap (t122))), 0))))) = some (r1, r2) := h
  clear h
  replace H := Option.bind_eq_some_iff.mp H
  obtain ⟨t122, A30, H⟩ := H
  replace H : (if t122 < 0 then (some (0, 2)) else (if a0 > (IntKind.u64.wrap (Int.tdiv (IntKind.u64.wrap (4611686018427387903 - (IntKind.u64.wrap (t122)))) 16)) then (some (0, 3)) else (some (IntKind.u64.wrap ((IntKind.u64.wrap (16 * a0)) + (IntKind.u64.wrap (t122))), 0)))) = some (r1, r2) := H
  have A3 := Aside0.mk A30
  clear A30
  by_cases c4 : t122 < 0
  · rw [if_pos c4] at H
    have c4b0 : decide (t122 < 0) = true := decide_eq_true c4
    clear c4
    simp only [Option.some.injEq, Prod.mk.injEq] at H
    obtain ⟨rfl, rfl⟩ := H
    go_enter Tryz.func59, Tryz.ntmps59
    go_wp2_with (first | ((with_reducible refine gate_callee (f := 57) rfl ?_); refine goesL_ (some 8) rfl rfl Tryz.func57 (by kernel_rfl) rfl #[.int .u8 a1] rfl (by (try simp only [List.map_toArray, List.map_cons, List.map_nil]); first | done | rfl | (simp only [List.length_drop, List.length_take]; rfl)) ?_; (with_reducible refine (hexa_Digit.calls k a1 t122 _ ?side1 A3.out).mono ?_); (case side1 => first | exact hG | exact TabOk.drewN hG _ | exact TabOk.drewN (TabOk.drewN hG _) _ | exact TabOk.below hG (by repeat (first | (with_reducible first | exact HB.out | apply below_alloc | apply pw_below_drewN | apply below_drew1) | exact HB.out))); rintro e w' ⟨rfl, ⟨nd, rfl⟩⟩; refine ⟨_, rfl, ?_⟩))
    go_ret2
    exact ⟨by first | rfl | (simp; done) | (simp [*]; done), by repeat (first | exact Drawn0.refl _ | apply Drawn0.step)⟩
  · rw [if_neg c4] at H
    have c4b0 : decide (t122 < 0) = false := decide_eq_false c4
    clear c4
    by_cases c5 : a0 > (IntKind.u64.wrap (Int.tdiv (IntKind.u64.wrap (4611686018427387903 - (IntKind.u64.wrap (t122)))) 16))
    · rw [if_pos c5] at H
      have c5b0 : decide ((IntKind.u64.wrap (Int.tdiv (IntKind.u64.wrap (4611686018427387903 - (IntKind.u64.wrap (t122)))) 16)) < a0) = true := decide_eq_true c5
      clear c5
      simp only [Option.some.injEq, Prod.mk.injEq] at H
      obtain ⟨rfl, rfl⟩ := H
      go_enter Tryz.func59, Tryz.ntmps59
      go_wp2_with (first | ((with_reducible refine gate_callee (f := 57) rfl ?_); refine goesL_ (some 8) rfl rfl Tryz.func57 (by kernel_rfl) rfl #[.int .u8 a1] rfl (by (try simp only [List.map_toArray, List.map_cons, List.map_nil]); first | done | rfl | (simp only [List.length_drop, List.length_take]; rfl)) ?_; (with_reducible refine (hexa_Digit.calls k a1 t122 _ ?side1 A3.out).mono ?_); (case side1 => first | exact hG | exact TabOk.drewN hG _ | exact TabOk.drewN (TabOk.drewN hG _) _ | exact TabOk.below hG (by repeat (first | (with_reducible first | exact HB.out | apply below_alloc | apply pw_below_drewN | apply below_drew1) | exact HB.out))); rintro e w' ⟨rfl, ⟨nd, rfl⟩⟩; refine ⟨_, rfl, ?_⟩))
      go_ret2
      exact ⟨by first | rfl | (simp; done) | (simp [*]; done), by repeat (first | exact Drawn0.refl _ | apply Drawn0.step)⟩
    · rw [if_neg c5] at H
      have c5b0 : decide ((IntKind.u64.wrap (Int.tdiv (IntKind.u64.wrap (4611686018427387903 - (IntKind.u64.wrap (t122)))) 16)) < a0) = false := decide_eq_false c5
      clear c5
      simp only [Option.some.injEq, Prod.mk.injEq] at H
      obtain ⟨rfl, rfl⟩ := H
      go_enter Tryz.func59, Tryz.ntmps59
      go_wp2_with (first | ((with_reducible refine gate_callee (f := 57) rfl ?_); refine goesL_ (some 8) rfl rfl Tryz.func57 (by kernel_rfl) rfl #[.int .u8 a1] rfl (by (try simp only [List.map_toArray, List.map_cons, List.map_nil]); first | done | rfl | (simp only [List.length_drop, List.length_take]; rfl)) ?_; (with_reducible refine (hexa_Digit.calls k a1 t122 _ ?side1 A3.out).mono ?_); (case side1 => first | exact hG | exact TabOk.drewN hG _ | exact TabOk.drewN (TabOk.drewN hG _) _ | exact TabOk.below hG (by repeat (first | (with_reducible first | exact HB.out | apply below_alloc | apply pw_below_drewN | apply below_drew1) | exact HB.out))); rintro e w' ⟨rfl, ⟨nd, rfl⟩⟩; refine ⟨_, rfl, ?_⟩))
      go_ret2
      exact ⟨by first | rfl | (simp; done) | (simp [*]; done), by repeat (first | exact Drawn0.refl _ | apply Drawn0.step)⟩
end Go.Proofs.YtmmbpbgcobmifaaGreatDoor.Pr
end
section
namespace Go.Proofs.YtmmbpbgcobmifaaGreatDoor.Pr
end Go.Proofs.YtmmbpbgcobmifaaGreatDoor.Pr
namespace Go.Proofs.YtmmbpbgcobmifaaGreatDoorH
open Go.RowKit Go.Proofs.YtmmbpbgcobmifaaGreatDoorW.PrintWords Go.Proofs.YtmmbpbgcobmifaaGreatDoorW.PrintLast Go.Proofs.YtmmbpbgcobmifaaGreatDoorW.PrintMore Go.Proofs.YtmmbpbgcobmifaaGreatDoor.Pr
def digI (c : Int) : Int := (hexa_Digit.f 5 c).getD (-1)
theorem digit_all : ∀ n : Fin 256, hexa_Digit.f 5 (n.val : Int) = some (digI n.val) ∧ -1 ≤ digI n.val ∧ digI n.val ≤ 15 := by decide +kernel
theorem digit_eq {c : Int} (h0 : 0 ≤ c) (h1 : c ≤ 255) : hexa_Digit.f 5 c = some (digI c) ∧ -1 ≤ digI c ∧ digI c ≤ 15 := by
  have h := digit_all ⟨c.toNat, by omega⟩
  rw [show ((⟨c.toNat, by omega⟩ : Fin 256).val : Int) = c by show (c.toNat : Int) = c; omega] at h
  exact h
theorem more_eq {c : Int} (n : Nat) (h0 : 0 ≤ c) (h1 : c ≤ 255) (hd : 0 ≤ digI c) (hn : n ≤ 4611686018427387903) : hexa_More.f 5 (n : Int) c = some (if n ≤ (4611686018427387903 - (digI c).toNat) / 16 then (((16 * n + (digI c).toNat : Nat) : Int), 0) else (0, 3)) := by
  have h := digit_eq h0 h1
  obtain ⟨d, hdd⟩ := Int.eq_ofNat_of_zero_le hd
  unfold hexa_More.f
  rw [h.1, Option.bind_some, hdd, if_neg (by omega)]
  rw [hdd] at h
  have hd15 : d ≤ 15 := by omega
  have e1 : IntKind.u64.wrap ((d : Nat) : Int) = (d : Int) := by rw [IntKind.wrap_u64]; omega
  have e2 : IntKind.u64.wrap (4611686018427387903 - (d : Int)) = ((4611686018427387903 - d : Nat) : Int) := by rw [IntKind.wrap_u64]; omega
  have e3 : Int.tdiv ((4611686018427387903 - d : Nat) : Int) 16 = (((4611686018427387903 - d) / 16 : Nat) : Int) := by rw [Int.tdiv_eq_ediv_of_nonneg (by omega)]; omega
  have e4 : IntKind.u64.wrap (((4611686018427387903 - d) / 16 : Nat) : Int) = (((4611686018427387903 - d) / 16 : Nat) : Int) := by rw [IntKind.wrap_u64]; omega
  rw [e1, e2, e3, e4, Int.toNat_natCast]
  by_cases hle : n ≤ (4611686018427387903 - d) / 16
  · have e5 : IntKind.u64.wrap (16 * (n : Int)) = ((16 * n : Nat) : Int) := by rw [IntKind.wrap_u64]; omega
    have e6 : IntKind.u64.wrap (((16 * n : Nat) : Int) + (d : Int)) = ((16 * n + d : Nat) : Int) := by rw [IntKind.wrap_u64]; omega
    rw [if_neg (by omega), if_pos hle, e5, e6]
  · rw [if_pos (by omega), if_neg hle]
def sizeL : Nat → List Int → Nat → Nat → Nat → Except (Nat × Int) (Nat × Nat)
  | 0, _, a, _, _ => .error (a, 4)
  | f + 1, s, a, n, g =>
    if a < s.length then (if digI (s.getD a 0) < 0 then (if 0 < g then .ok (n, a) else .error (a, 2))
      else if g < 16 ∧ n ≤ (4611686018427387903 - (digI (s.getD a 0)).toNat) / 16 then sizeL f s (a + 1) (16 * n + (digI (s.getD a 0)).toNat) (g + 1) else .error (a, 3))
    else .error (a, 4)
def sizeM (s : List Int) (a : Nat) : Except (Nat × Int) (Nat × Nat) := sizeL (s.length - a + 1) s a 0 0
end Go.Proofs.YtmmbpbgcobmifaaGreatDoorH
end
