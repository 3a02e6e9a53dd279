import Derived.Test.YtmmbpbgcobmifaaDoorZBodyScansP5
import Derived.Test.YtmmbpbgcobmifaaDoorZBodyScansP4
import Derived.Test.YtmmbpbgcobmifaaDoorZBodyScansP3
import Derived.Test.YtmmbpbgcobmifaaDoorZBodyScansP6
import Derived.Test.YtmmbpbgcobmifaaDoorZBodyScansP1
import Derived.RangeFuncFrom
import Derived.RangeFuncWrites
import Derived.RangeFuncBox
import Derived.Maps.AppendAt
namespace Go.Proofs.YtmmbpbgcobmifaaDoorW.PrintWords
end Go.Proofs.YtmmbpbgcobmifaaDoorW.PrintWords
namespace Go.Proofs.YtmmbpbgcobmifaaDoorW.PrintLast
end Go.Proofs.YtmmbpbgcobmifaaDoorW.PrintLast
namespace Go.Proofs.YtmmbpbgcobmifaaDoorW.PrintMore
end Go.Proofs.YtmmbpbgcobmifaaDoorW.PrintMore
namespace Go.Proofs.YtmmbpbgcobmifaaDoor.Pr
end Go.Proofs.YtmmbpbgcobmifaaDoor.Pr
namespace Go.Proofs.YtmmbpbgcobmifaaDoorM
end Go.Proofs.YtmmbpbgcobmifaaDoorM
namespace Go.Proofs.YtmmbpbgcobmifaaDoorH
end Go.Proofs.YtmmbpbgcobmifaaDoorH
section
namespace Go.Proofs.YtmmbpbgcobmifaaDoor.Pr
end Go.Proofs.YtmmbpbgcobmifaaDoor.Pr
namespace Go.Proofs.YtmmbpbgcobmifaaDoorH
open Go.RowKit Go.Shelf Go.Proofs.YtmmbpbgcobmifaaDoorW.PrintWords Go.Proofs.YtmmbpbgcobmifaaDoorW.PrintLast Go.Proofs.YtmmbpbgcobmifaaDoorW.PrintMore Go.Proofs.YtmmbpbgcobmifaaDoor.Pr
attribute [local go_sem] Oper.semAt_some
def nxt (st c : Int) : Int × Bool := (block_next.f st c).getD (5, false)
theorem one_size (c : Int) : (strOfNums ([c] : List Int)).size = 1 := rfl
theorem nxt_eq (st c : Int) : block_next.f st c = some (nxt st c) := by
  have h1 : octet_Token.f (strOfNums ([c] : List Int)) = some (tokB (strOfNums ([c] : List Int))) := by
    unfold octet_Token.f
    rw [if_pos (by rw [one_size]; omega)]
  have h2 : octet_Text.f (strOfNums ([c] : List Int)) = some (allB textI (strOfNums ([c] : List Int))) := by
    unfold octet_Text.f
    rw [if_pos (by rw [one_size]; omega)]
  unfold nxt block_next.f
  simp only [Option.bind_some, h1, h2]
  repeat' split
  all_goals rfl
theorem bt_get (s : ByteArray) (i : Nat) (h : i < s.size) : bt s (i : Int) = ((s[i]'h).toNat : Int) := by
  rw [bt_nat s i h, List.getD_eq_getElem?_getD, List.getElem?_eq_getElem (by rw [← size_eq_length]; exact h)]
  rfl
def scanP : Nat → ByteArray → Nat → Int → Nat × Int
  | 0, _, i, _ => (i, 4)
  | k + 1, s, i, st => if i < s.size then (if (nxt st (bt s i)).2 = true then (if (nxt st (bt s i)).1 = 5 then (i + 1, 0) else scanP k s (i + 1) (nxt st (bt s i)).1) else (i, 2)) else (i, 4)
theorem scanP_end (k : Nat) (s : ByteArray) (st : Int) : scanP k s s.size st = (s.size, 4) := by
  cases k with
  | zero => rfl
  | succ k => rw [scanP, if_neg (Nat.lt_irrefl _)]
theorem scanP_bad (k : Nat) (s : ByteArray) (i : Nat) (st nx : Int) (hi : i < s.size) (h : nxt st (bt s i) = (nx, false)) : scanP (k + 1) s i st = (i, 2) := by
  rw [scanP, if_pos hi, h]; rfl
theorem scanP_done (k : Nat) (s : ByteArray) (i : Nat) (st : Int) (hi : i < s.size) (h : nxt st (bt s i) = (5, true)) : scanP (k + 1) s i st = (i + 1, 0) := by
  rw [scanP, if_pos hi, h]; rfl
theorem scanP_on (k : Nat) (s : ByteArray) (i : Nat) (st nx : Int) (hi : i < s.size) (h : nxt st (bt s i) = (nx, true)) (h5 : nx ≠ 5) : scanP (k + 1) s i st = scanP k s (i + 1) nx := by
  rw [scanP, if_pos hi, h]; simp only [if_pos]; rw [if_neg h5]
theorem results_cell3 {fn : Func} {p u x : Tmp} {ty : TypeId} (h : fn.results = #[.cell p ty, .tmp u, .tmp x]) (tmps : Array Value) (P : Program) (w : World) (a : Addr) (v : Value)
    (hp : tmps.getD p undef = .pointer (some a)) (hA : (isAgg ty).run P w = .ok false w) (hc : w.cell? a = some v) : (results fn tmps).run P w = .ok (.tuple #[v, tmps.getD u undef, tmps.getD x undef]) w := by
  rw [Array.getD_eq_getD_getElem?] at hp
  simp only [results, h]
  simp [Sem.run_bind, Result.andThen, hp, loadVar, hA, asAddr, go_sem, hc]
def fldOf (s : ByteArray) : Fld := ⟨parseF s, parseV s⟩
def fieldsOf : List (Nat × ByteArray) → List Fld
  | [] => []
  | x :: l => if x.2.size = 0 then [] else fldOf x.2 :: fieldsOf l
theorem fieldsOf_snoc : ∀ (l : List (Nat × ByteArray)) (x : Nat × ByteArray), (∀ y ∈ l, y.2.size ≠ 0) → fieldsOf (l ++ [x]) = fieldsOf l ++ (if x.2.size = 0 then [] else [fldOf x.2])
  | [], x, _ => rfl
  | y :: l, x, h => by
    rw [List.cons_append, fieldsOf, fieldsOf, if_neg (h y List.mem_cons_self), if_neg (h y List.mem_cons_self), fieldsOf_snoc l x (fun z hz => h z (List.mem_cons_of_mem _ hz))]
    rfl
theorem fieldsOf_prefix : ∀ l r : List (Nat × ByteArray), (∃ y ∈ l, y.2.size = 0) → fieldsOf (l ++ r) = fieldsOf l
  | [], _, ⟨_, h, _⟩ => absurd h List.not_mem_nil
  | x :: l, r, ⟨y, hy, h0⟩ => by
    rw [List.cons_append, fieldsOf, fieldsOf]
    by_cases hx : x.2.size = 0
    · rw [if_pos hx, if_pos hx]
    · rw [if_neg hx, if_neg hx, fieldsOf_prefix l r]
      rcases List.mem_cons.1 hy with rfl | hy
      · exact absurd h0 hx
      · exact ⟨y, hy, h0⟩
theorem fieldsOf_length : ∀ l : List (Nat × ByteArray), (fieldsOf l).length ≤ l.length
  | [] => Nat.le_refl _
  | x :: l => by
    have := fieldsOf_length l
    rw [fieldsOf]
    split
    · simp
    · simp only [List.length_cons]; omega
def hasNil (l : List (Nat × ByteArray)) : Prop := ∃ y ∈ l, y.2.size = 0
def noNil (l : List (Nat × ByteArray)) : Prop := ∀ y ∈ l, y.2.size ≠ 0
theorem noNil_snoc {l : List (Nat × ByteArray)} {x : Nat × ByteArray} (h : noNil l) (hx : x.2.size ≠ 0) : noNil (l ++ [x]) := fun y hy => (List.mem_append.1 hy).elim (h y) (fun hy => by rcases List.mem_singleton.1 hy with rfl; exact hx)
def encF (x : Fld) : List Value := [.string x.f0, .string x.f1]
def scanR (s : ByteArray) : List Fld × Int × Int :=
  if (scanP (s.size + 1) s 0 0).2 = 0 then (fieldsOf (linesOf ((s.extract 0 (scanP (s.size + 1) s 0 0).1).size + 1) (s.extract 0 (scanP (s.size + 1) s 0 0).1) 0), (((scanP (s.size + 1) s 0 0).1 : Nat) : Int), 0)
  else ([], (((scanP (s.size + 1) s 0 0).1 : Nat) : Int), (scanP (s.size + 1) s 0 0).2)
theorem extract0_size (s : ByteArray) (k : Nat) (h : k ≤ s.size) : (s.extract 0 k).size = k := by
  have h1 := congrArg List.length (extract_to s k)
  rw [← size_eq_length, List.length_take, ← size_eq_length] at h1
  omega
theorem scanR_bad {s : ByteArray} {i : Nat} {e : Int} (h : scanP (s.size + 1) s 0 0 = (i, e)) (he : e ≠ 0) : scanR s = ([], (i : Int), e) := by
  unfold scanR
  rw [h, if_neg he]
theorem scanR_good {s : ByteArray} {i : Nat} (h : scanP (s.size + 1) s 0 0 = (i, 0)) (hi : i ≤ s.size) : scanR s = (fieldsOf (linesOf (i + 1) (s.extract 0 i) 0), (i : Int), 0) := by
  unfold scanR
  rw [h, if_pos rfl, extract0_size s i hi]
set_option maxRecDepth 100000 in
set_option maxHeartbeats 2000000 in
theorem scan_in (n : Nat) (hn : 4 ≤ n) (s : ByteArray) (hs : s.size < 4000000000) (w : World) (hG : TabOk w) :
    CallsIn Fence.wide n Tryd.prog 83 #[.string s] w fun e w' => ∃ (v : Value) (l : List Fld) (i er : Int), e = .returned (.tuple #[v, .int .i64 i, .int .i64 er]) ∧ scanR s = (l, i, er) ∧ Kd.R k53 53 w' w.heap.size (fun _ => True) v l ∧ Below w.heap.size w w' := by
  have h1 : 1 ≤ n := by omega
  refine callsIn_of_wp_marks Tryd.func83 rfl trivial ?_ rfl
  simp only [Tryd.ntmps83, List.size_toArray, List.length_cons, List.length_nil, Nat.reduceAdd, Nat.reduceSub, Array.replicate_succ, Array.replicate_zero, List.push_toArray, List.append_toArray, List.nil_append, List.cons_append]
  gi_wp2
  refine wpIn_scope_straight ?_
  gi_wp2
  apply wpIn_label
  gi_wp2
  gi_loopw [3, 5] (fun v3 v5 wr => ∃ (i k : Nat) (st : Int), i ≤ s.size ∧ s.size - i < k ∧ v3 = .int .i64 i ∧ v5 = .int .i64 st ∧ st ≠ 5 ∧ Aside0 (scanP (s.size + 1) s 0 0 = scanP k s i st) ∧ Aside0 (Boxed wr w.heap.size 37 (.slice none 0 0)) ∧ Aside0 (Below w.heap.size w wr))
    (fun v3 _ _ => s.size - (intOf v3).toNat)
  case atStart => exact ⟨0, s.size + 1, 0, Nat.zero_le _, by omega, rfl, rfl, by decide, ⟨rfl⟩, ⟨Boxed.new _ _ _⟩, ⟨below_alloc (Below.refl _ _) _⟩⟩
  case round =>
    obtain ⟨i, k, st, hi, hk, rfl, rfl, hst, hE, hbx, hb⟩ := hrel
    by_cases hlt : i < s.size
    · obtain ⟨k, rfl⟩ : ∃ q, k = q + 1 := ⟨k - 1, by omega⟩
      obtain ⟨q, hq⟩ : ∃ q, nxt st (bt s i) = q := ⟨_, rfl⟩
      obtain ⟨nx, ok⟩ := q
      have HC := Aside0.mk (block_next.calls st (bt s i) nx ok wr (hG.below hb.out) (by rw [nxt_eq, hq]))
      rw [bt_get s i hlt] at HC
      have HQ := Aside0.mk hq
      clear hq
      gi_wp2
      refine ⟨trivial, ?_⟩
      refine (callsIn_wide.2 HC.out).mono ?_
      rintro e w1 ⟨rfl, b1⟩
      have B1 := Aside0.mk (hb.out.trans (b1.mono hb.out.size))
      have X1 := Aside0.mk (show Boxed w1 w.heap.size 37 (.slice none 0 0) from (b1.block _ hbx.out.lt).trans hbx.out)
      clear b1 HC hbx hb
      cases ok with
      | false =>
        have hcl := X1.out.cell
        have hfz := X1.out.frozen
        gi_wp2
        refine ⟨_, results_cell3 rfl _ _ _ ⟨w.heap.size, 0, none⟩ (.slice none 0 0) rfl (run_isAgg_plain Tryd.underlying37 rfl _) (X1.out.set _).cell, ?_⟩
        exact ⟨_, [], _, _, rfl, scanR_bad (hE.out.trans (scanP_bad k s i st nx hlt HQ.out)) (by decide), Kd.R_nil _ _ _ _ _, B1.out.setCell (p := ⟨w.heap.size, 0, none⟩) (Nat.le_refl _) _⟩
      | true =>
        by_cases h5 : nx = 5
        · subst h5
          have HP := Aside0.mk (hE.out.trans (scanP_done k s i st hlt HQ.out))
          clear hE HQ
          have HL := Aside0.mk (lines_calls (s.extract 0 (i + 1)) w1)
          gi_wp2
          refine ⟨trivial, ?_⟩
          refine (callsIn_wide.2 HL.out).mono ?_
          rintro e w2 ⟨rfl, rfl⟩
          clear HL
          gi_wp2
          have hs1 := extract0_size s (i + 1) (by omega)
          have HB2 := Aside0.mk (show Below w.heap.size w (w1.alloc (.cells #[.string (s.extract 0 (i + 1))] 9)) from below_alloc B1.out _)
          have hwx : w.heap.size < w1.heap.size := X1.out.lt
          obtain ⟨ls, hls⟩ : ∃ ls, linesOf (i + 1 + 1) (s.extract 0 (i + 1)) 0 = ls := ⟨_, rfl⟩
          have HLL := Aside0.mk (show ls.length ≤ i + 2 by rw [← hls]; exact linesOf_length _ _ _)
          have HLZ := Aside0.mk (show ∀ y ∈ ls, y.2.size ≤ i + 1 by rw [← hls]; intro y hy; have := linesOf_size _ _ _ y hy; rwa [hs1] at this)
          have HSR := Aside0.mk (show scanR s = (fieldsOf ls, ((i + 1 : Nat) : Int), 0) by rw [scanR_good HP.out (by omega), hls])
          have HSQ := Aside0.mk (lines_own (n - 1) (by omega) w1.heap.size (s.extract 0 (i + 1)) (by rw [hs1]; omega) w hG _ (Lies.below HB2.out) (Boxed.new w1 9 (.string (s.extract 0 (i + 1)))))
          rw [hs1, hls] at HSQ
          clear hls
          refine wpIn_range_own (F := Fence.wide) rfl rfl h1 (gf := 103) (lb := #[.pointer (some ⟨w1.heap.size, 0, none⟩)]) rfl trivial (enters_of Tryd.func103 (by kernel_rfl) rfl) HSQ.out (Below.refl _ _) (fun r h => h.elim)
            (by rintro r (h | rfl) <;> rw [World.size_alloc] <;> omega) (fun _ => rfl) none (fun q e => by cases e)
            (fun pre g W => ((∀ q, g = some q → w1.heap.size + 3 ≤ q) ∧ ∃ v, v.ownBlock = g ∧ Boxed W w.heap.size 37 v ∧ W.ownsRow w.heap.size 53 2 v (fieldsOf pre).length ((fieldsOf pre).flatMap encF)) ∧ (Below w.heap.size w W ∧ noNil pre))
            (fun c pre g W => ((∀ q, g = some q → w1.heap.size + 3 ≤ q) ∧ ∃ v, v.ownBlock = g ∧ Boxed W w.heap.size 37 v ∧ W.ownsRow w.heap.size 53 2 v (fieldsOf pre).length ((fieldsOf pre).flatMap encF)) ∧ (Below w.heap.size w W ∧ (c = .exit 2 ∧ hasNil pre)))
            (Abd.and (Abd.rowed (fun pre => (fieldsOf pre).length) (fun pre => (fieldsOf pre).flatMap encF) _ (by rw [World.size_alloc]; omega) (by rw [World.size_alloc]; omega) (fun h => h) (fun r h => h.elim)) (Abd.and (Abd.low (by rw [World.size_alloc]; omega) (Nat.le_refl _) (fun r h => h.elim)) (Abd.pure (β := List (Nat × ByteArray)) (fun pre _ => noNil pre))))
            (fun c => Abd.and (Abd.rowed (fun pre => (fieldsOf pre).length) (fun pre => (fieldsOf pre).flatMap encF) _ (by rw [World.size_alloc]; omega) (by rw [World.size_alloc]; omega) (fun h => h) (fun r h => h.elim)) (Abd.and (Abd.low (by rw [World.size_alloc]; omega) (Nat.le_refl _) (fun r h => h.elim)) (Abd.pure (β := List (Nat × ByteArray)) (fun pre _ => c = .exit 2 ∧ hasNil pre))))
            ⟨⟨(fun q e => by cases e), _, rfl, X1.out.alloc _, World.ownsRow_nil _ _ _ _⟩, HB2.out, fun y hy => absurd hy List.not_mem_nil⟩
            (fun pre g W q h e => .inr (by have := h.1.1 q e; rw [World.size_alloc]; omega)) (fun c pre g W q h e => .inr (by have := h.1.1 q e; rw [World.size_alloc]; omega))
            (fun x a' _ => a' = { tmps := #[Value.string s, undef, Value.pointer (some { block := w.heap.size, off := 0 }),
              Value.int IntKind.i64 (↑i + 1), u4, Value.int IntKind.i64 5, Value.int IntKind.i64 5, Value.bool true, undef,
              Value.string x.2, undef, undef, Value.int IntKind.i64 ↑i, Value.string s, Value.int IntKind.i64 ↑s.size, Value.bool true,
              Value.tuple #[Value.int IntKind.i64 5, Value.bool true], Value.int IntKind.i64 st, Value.string s,
              Value.int IntKind.i64 ↑i, Value.int IntKind.u8 ↑s[i].toNat,
              Value.tuple #[Value.int IntKind.i64 5, Value.bool true], Value.int IntKind.i64 5, Value.bool true,
              Value.bool true, Value.bool false, u26, Value.int IntKind.i64 ↑i, Value.int IntKind.i64 (↑i + 1),
              Value.int IntKind.i64 5, Value.int IntKind.i64 5, Value.bool true, Value.int IntKind.i64 5, Value.bool false,
              undef, Value.string s, Value.int IntKind.i64 (↑i + 1), Value.string (s.extract 0 (i + 1)),
              Value.func (Fn.func 103) #[] #[Value.pointer (some { block := w1.heap.size, off := 0 })], Value.int IntKind.i64 ((x.1 : Nat) : Int), Value.string x.2, undef,
              undef, undef, undef, undef, undef, undef, undef, undef, undef, undef, undef, undef], defers := [] })
            (fun x a' _ _ _ _ _ h _ _ => h) ?assign ?body ?done ?stop
          case assign =>
            intro l pre x g W K hI hK
            dsimp only [encL]
            gi_wp2
            exact hK _ _ (Spares.refl _ _ _) hI rfl
          case body =>
            rintro l pre ⟨at', ln⟩ g a' W hW2 ⟨⟨hgq, v, rfl, hbw, hrow⟩, hBW, hne⟩ rfl hsp
            have hmem : ((at', ln) : Nat × ByteArray) ∈ ls := hsp.subset (List.mem_append_right _ List.mem_cons_self)
            have hlz : ln.size ≤ i + 1 := HLZ.out _ hmem
            have hpl : (fieldsOf pre).length + 1 ≤ i + 2 := by
              have h1 := hsp.length_le
              have h2 := HLL.out
              have h3 := fieldsOf_length pre
              rw [List.length_append, List.length_singleton] at h1
              omega
            have HF := Aside0.mk (fieldsOf_snoc pre (at', ln) hne)
            have HGQ := Aside0.mk hgq
            have HROW := Aside0.mk hrow
            have HBW := Aside0.mk hBW
            have HNE := Aside0.mk hne
            have HBX := Aside0.mk hbw
            rw [World.size_alloc] at hW2
            clear hgq hrow hBW hne hbw hsp hmem
            by_cases h0 : ln.size = 0
            · obtain rfl : ln = ⟨#[]⟩ := ByteArray.ext (Array.eq_empty_of_size_eq_zero h0)
              gi_wp2
              refine ⟨_, Spares.refl _ _ _, ⟨HGQ.out, v, rfl, HBX.out, ?_⟩, HBW.out, rfl, (show hasNil _ from ⟨(at', ⟨#[]⟩), List.mem_append_right _ List.mem_cons_self, rfl⟩)⟩
              rw [HF.out, if_pos h0, List.append_nil]
              exact HROW.out
            · obtain ⟨r3, hr3⟩ : ∃ r3 : Int, (if lineB ln = true then (0 : Int) else 2) = r3 := ⟨_, rfl⟩
              have HC := Aside0.mk (field_Parse.calls ln (parseF ln) (parseV ln) r3 W (hG.below HBW.out) (by rw [field_Parse_eq ln (by omega), hr3]))
              clear hr3
              have hne1 : (ln.toList == ([] : List UInt8)) = false := by
                rw [ByteArray.toList_eq, beq_eq_false_iff_ne]
                intro e
                apply h0
                rw [size_eq_length, e]; rfl
              have hne2 : (ln.toList = ([] : List UInt8)) = False := by simpa using hne1
              have hne3 : (ln = (⟨#[]⟩ : ByteArray)) = False := by
                refine eq_false ?_
                rintro rfl
                exact h0 rfl
              rw [if_neg h0] at HF
              gi_wp2
              refine ⟨trivial, (fun _ => by omega), ?_⟩
              refine (CallsIn.inRound l (callsIn_wide.2 HC.out)).mono ?_
              rintro e w2 ⟨rfl, b2⟩
              have HB2 := Aside0.mk b2
              have HX2 := Aside0.mk (show Boxed w2 w.heap.size 37 v from (b2.block _ HBX.out.lt).trans HBX.out)
              have HR2 := Aside0.mk (show w2.ownsRow w.heap.size 53 2 v (fieldsOf pre).length ((fieldsOf pre).flatMap encF) from own_move HROW.out (fun k hk => b2.block k (own_lt HROW.out k hk)))
              have hcl2 := (HX2.out.alloc (.cells #[.string (parseF ln), .string (parseV ln)] 53)).cell
              clear b2 HC HROW HBX
              gi_wp2_with (gi_at_builtin; refine halt ?_)
              refine unhalt ?_
              refine in_append w.heap.size rfl _ _ 37 53 (.agg #[(.string ⟨#[]⟩), (.string ⟨#[]⟩)]) 2 32 rfl Tryd.underlying37 info53 rfl (by decide) (by omega) v (fieldsOf pre).length ((fieldsOf pre).flatMap encF) [.string (parseF ln), .string (parseV ln)] rfl ?hx rfl ?one (HR2.out.alloc _) ?base ?lim ?_
              case hx => rw [World.size_alloc]; rfl
              case one =>
                intro u hu
                rcases List.mem_cons.1 hu with rfl | hu
                · rfl
                · rcases List.mem_singleton.1 hu with rfl
                  rfl
              case base =>
                rw [World.size_alloc]
                have := HBW.out.size
                have := HB2.out.size
                omega
              case lim => omega
              intro v1 w3 ho3 hg3 hat3
              obtain ⟨g', cap', rfl⟩ := ownsRow_succ ho3
              obtain ⟨hv1, hv2, hr2, hk2, hb2⟩ := collected (K := fun k => (w1.alloc (.cells #[.string (s.extract 0 (i + 1))] 9)).heap.size ≤ k ∨ (k < w.heap.size ∨ k = w1.heap.size)) (HX2.out.alloc _) (by decide) (HR2.out.alloc _) (by rw [World.size_alloc]; omega) (Nat.le_refl _) ho3 hg3 hat3
              have hc1 := hv1.cell
              have hf1 := hv1.frozen
              have HV2 := Aside0.mk hv2
              have HRR := Aside0.mk hr2
              have HK2 := Aside0.mk hk2
              have HB3 := Aside0.mk hb2
              clear hv1 hv2 hr2 hk2 hb2 ho3 hg3 hat3
              gi_wp2
              refine ⟨_, ((Spares.below HB2.out).trans (Spares.below (below_alloc (Below.refl _ _) _))).trans HK2.out, ⟨HK2.out.ge (n := w1.heap.size + 3) (by rw [World.size_alloc]; have := HB2.out.size; omega) HGQ.out, _, rfl, HV2.out, ?_⟩, (below_alloc (HBW.out.trans (HB2.out.mono HBW.out.size)) _).trans HB3.out, noNil_snoc HNE.out h0⟩
              rw [HF.out, List.length_append, List.flatMap_append]
              exact HRR.out
          case done =>
            rintro D ys g W hD rfl ⟨⟨hgq, v, rfl, hbw, hrow⟩, hBW, hne⟩ hK
            obtain ⟨a0, n0, c0, hv0⟩ := owns_slice hrow
            subst hv0
            rw [World.size_alloc] at hD
            obtain ⟨q1, q2, q3, q4⟩ := closed hbw (by decide) hrow (Nat.le_refl _) (by omega) hK
            have Q1 := Aside0.mk q1
            have Q2 := Aside0.mk q2
            have Q3 := Aside0.mk q3
            have Q4 := Aside0.mk (hBW.trans q4)
            have hcl := hbw.cell
            have hfz := hbw.frozen
            clear q1 q2 q3 q4 hrow hBW hbw hK hgq
            gi_wp2
            refine ⟨by simp, .inl ⟨_, _, rfl, run_takeDeferred Q1.out, ?_⟩⟩
            refine ⟨_, results_cell3 rfl _ _ _ ⟨w.heap.size, 0, none⟩ (.slice a0 n0 c0) rfl (run_isAgg_plain Tryd.underlying37 rfl _) Q2.out.cell, ?_⟩
            exact ⟨_, fieldsOf ys, _, _, rfl, HSR.out, row_of_owns k53 encF (fun _ => rfl) (fun _ x => k53_mkM _ _ _ x) Q3.out, Q4.out⟩
          case stop =>
            rintro D c pre g W hD hsp ⟨⟨hgq, v, rfl, hbw, hrow⟩, hBW, rfl, hz⟩ hK
            have HSS := Aside0.mk (show scanR s = (fieldsOf pre, ((i + 1 : Nat) : Int), 0) by
              obtain ⟨r, hr⟩ := hsp
              rw [HSR.out, ← hr, fieldsOf_prefix pre r hz])
            clear hsp hz
            obtain ⟨a0, n0, c0, hv0⟩ := owns_slice hrow
            subst hv0
            rw [World.size_alloc] at hD
            obtain ⟨q1, q2, q3, q4⟩ := closed hbw (by decide) hrow (Nat.le_refl _) (by omega) hK
            have Q1 := Aside0.mk q1
            have Q2 := Aside0.mk q2
            have Q3 := Aside0.mk q3
            have Q4 := Aside0.mk (hBW.trans q4)
            have hcl := hbw.cell
            have hfz := hbw.frozen
            clear q1 q2 q3 q4 hrow hBW hbw hK hgq
            gi_wp2
            refine ⟨by simp, .inl ⟨_, _, rfl, run_takeDeferred Q1.out, ?_⟩⟩
            refine ⟨_, results_cell3 rfl _ _ _ ⟨w.heap.size, 0, none⟩ (.slice a0 n0 c0) rfl (run_isAgg_plain Tryd.underlying37 rfl _) Q2.out.cell, ?_⟩
            exact ⟨_, fieldsOf pre, _, _, rfl, HSS.out, row_of_owns k53 encF (fun _ => rfl) (fun _ x => k53_mkM _ _ _ x) Q3.out, Q4.out⟩
        · have HP := Aside0.mk (hE.out.trans (scanP_on k s i st nx hlt HQ.out h5))
          clear hE HQ
          gi_wp2
          go_roundw
          case rel => exact ⟨i + 1, k, nx, by omega, by omega, congrArg (Value.int IntKind.i64) (by omega), rfl, h5, HP, X1, B1⟩
          case measure => simp [intOf]; omega
    · have hie : i = s.size := by omega
      subst hie
      have HP := Aside0.mk (hE.out.trans (scanP_end k s st))
      have hcl := hbx.out.cell
      have hfz := hbx.out.frozen
      clear hE
      gi_wp2
      refine ⟨_, results_cell3 rfl _ _ _ ⟨w.heap.size, 0, none⟩ (.slice none 0 0) rfl (run_isAgg_plain Tryd.underlying37 rfl _) (hbx.out.set _).cell, ?_⟩
      exact ⟨_, [], _, _, rfl, scanR_bad HP.out (by decide), Kd.R_nil _ _ _ _ _, hb.out.setCell (p := ⟨w.heap.size, 0, none⟩) (Nat.le_refl _) _⟩
def block_Scan.f (a0 : ByteArray) : Option ((List S53) × Int × Int) := if a0.size < 4000000000 then some (scanR a0) else none
theorem block_Scan.calls (a0 : ByteArray) (r1 : List S53) (r2 : Int) (r3 : Int) (w : World) (hG : TabOk w) (h : block_Scan.f a0 = some (r1, r2, r3)) :
    Calls Tryd.prog 83 #[.string a0] w fun e w' => ∃ v0_ : Value, e = .returned (.tuple #[v0_, .int .i64 r2, .int .i64 r3]) ∧ Kd.R k53 53 w' w.heap.size (fun _ => True) v0_ r1 ∧ Below w.heap.size w w' := by
  unfold block_Scan.f at h
  split at h
  · rename_i hs
    injection h with h
    refine (callsIn_wide.1 (scan_in 4 (Nat.le_refl _) a0 hs w hG)).mono ?_
    rintro e w' ⟨v, l, i, er, rfl, hr, hR, hb⟩
    rw [h] at hr
    cases hr
    exact ⟨v, rfl, hR, hb⟩
  · cases h
end Go.Proofs.YtmmbpbgcobmifaaDoorH
end
section
namespace Go.Proofs.YtmmbpbgcobmifaaDoor.Pr
end Go.Proofs.YtmmbpbgcobmifaaDoor.Pr
namespace Go.Proofs.YtmmbpbgcobmifaaDoorH
open Go Go.RowKit Go.Proofs.YtmmbpbgcobmifaaDoorW.PrintWords Go.Proofs.YtmmbpbgcobmifaaDoorW.PrintLast Go.Proofs.YtmmbpbgcobmifaaDoorW.PrintMore Go.Proofs.YtmmbpbgcobmifaaDoor.Pr Go.Proofs.YtmmbpbgcobmifaaDoorM
theorem scanP_le : ∀ (k : Nat) (s : ByteArray) (i : Nat) (st : Int), i ≤ s.size → (scanP k s i st).1 ≤ s.size
  | 0, s, i, st, h => h
  | k + 1, s, i, st, h => by
    rw [scanP]
    split
    · split
      · split
        · dsimp only; omega
        · exact scanP_le k s (i + 1) _ (by omega)
      · exact h
    · exact h
theorem scanR_nat (s : ByteArray) : ∃ n : Nat, (scanR s).2.1 = (n : Int) ∧ n ≤ s.size := by
  have h := scanP_le (s.size + 1) s 0 0 (Nat.zero_le _)
  unfold scanR
  split
  · exact ⟨_, rfl, h⟩
  · exact ⟨_, rfl, h⟩
theorem beyL_le (e1 e2 : Nat) : ∀ (ls : List (List Int)) (z k : Nat), beyL e1 e2 ls z k ≤ ((max e2 (z + ls.flatten.length) : Nat) : Int)
  | [], z, k => by rw [beyL]; omega
  | ln :: ls, z, k => by
    have ih := beyL_le e1 e2 ls (z + ln.length) (k + 1)
    rw [beyL, List.flatten_cons, List.length_append]
    split
    · omega
    · split
      · omega
      · split
        · omega
        · have : z + ln.length + ls.flatten.length = z + (ln.length + ls.flatten.length) := by omega
          rw [this] at ih
          exact ih
def secQ (r : List Int) (e1 e2 : Nat) (a : Nat) (q : List Fld × Int × Int) : RM (List Fld) :=
  if 0 ≤ beyL e1 e2 (linesB (r.take q.2.1.toNat)) 0 0 then .error (a + (beyL e1 e2 (linesB (r.take q.2.1.toNat)) 0 0).toNat, 5)
  else if q.2.2 = 0 then .ok (q.1, a + q.2.1.toNat) else .error (a + q.2.1.toNat, q.2.2)
def secM (s : List Int) (e1 e2 : Nat) (a : Nat) : RM (List Fld) := secQ (s.drop a) e1 e2 a (scanR (strOfNums (s.drop a)))
def DoesF (W : World) (B b : Nat) (A : Option Addr) (n c : Nat) (e0 e1 e2 : Int) (dv : Value) (D : List Int) (m : RM (List Fld)) (e : Ending) (w' : World) : Prop :=
  match m with
  | .ok (l, a1) => ∃ A' n' c', e = .returned (.slice A' n' c') ∧ Kd.R k53 53 w' B (fun _ => True) (.slice A' n' c') l ∧ AtR W w' B b A n c e0 e1 e2 a1 dv D
  | .error (a1, er) => e = gaveUp a1 er ∧ AtR W w' B b A n c e0 e1 e2 a1 dv D
theorem AtR.below {w W W1 : World} {B b : Nat} {A : Option Addr} {n c : Nat} {e0 e1 e2 : Int} {a : Nat} {dv : Value} {D : List Int} (h : AtR w W B b A n c e0 e1 e2 a dv D) (hB : B ≤ b) (hb : Below W.heap.size W W1) : AtR w W1 B b A n c e0 e1 e2 a dv D :=
  h.only hB (h.i.below hb) (Only.of_below hb (Nat.le_of_lt h.i.lt))
set_option maxHeartbeats 8000000 in
set_option maxRecDepth 100000 in
theorem section_does (w W : World) (B b : Nat) (A : Option Addr) (c : Nat) (e0 : Int) (e1 e2 : Nat) (a : Nat) (dv : Value) (D s : List Int) (hA : AtR w W B b A s.length c e0 (e1 : Int) (e2 : Int) a dv D) (hBb : B ≤ b) (hBw : B ≤ w.heap.size) (hC : Keeps B w fun W => Kd.C (Kd.int .u8) W A s.length s ∧ TabOk W)
    (hs : ByteL s) (hl : s.length ≤ 1073741824) (hsc : s.length ≤ c) (ha : a ≤ s.length) (h1 : e1 ≤ 65536) (h2 : e2 ≤ 65536) :
    Calls Tryd.prog 70 #[.pointer (some ⟨b, 0, none⟩)] W (DoesF W B b A s.length c e0 (e1 : Int) (e2 : Int) dv D (secM s e1 e2 a)) := by
  have AT0 := Aside0.mk (show AtR W W B b A s.length c e0 (e1 : Int) (e2 : Int) a dv D from ⟨hA.i, hA.r, Fore.refl _ _, Below.refl _ _⟩)
  have HK := Aside0.mk (fun (W' : World) (v : Value) (E : List Int) (a' : Nat) (h : AtR W W' B b A s.length c e0 (e1 : Int) (e2 : Int) a' v E) => hC W' (hA.b.trans h.b))
  have hsz : B ≤ W.heap.size := Nat.le_trans hBw hA.b.size
  have hbW := AT0.out.i.lt
  have HR := Aside0.mk (show ∀ x ∈ s.drop a, 0 ≤ x ∧ x ≤ 255 from fun x hx => hs x (List.mem_of_mem_drop hx))
  clear hA hC hs
  have htu : Tryd.prog.underlying 24 = some (.slice 5) := Tryd.underlying24
  have hq : (Tryd.prog.info? 5).map (fun i => i.size) = some 1 := by kernel_rfl
  obtain ⟨ii, hii, hisz⟩ := Option.map_eq_some_iff.1 hq
  clear hq
  obtain ⟨A', hA'⟩ : ∃ A', (if c = a then A else A.map (·.add (a * 1))) = A' := ⟨_, rfl⟩
  have HCD := Aside0.mk (fun (W' : World) (h : Kd.C (Kd.int .u8) W' A s.length s) => (show Kd.C (Kd.int .u8) W' A' (s.drop a).length (s.drop a) from by
    have := Kd.C_drop (m := a) (c := c) h ha hsc
    rw [← hA']
    exact this))
  have hdl : (s.drop a).length = s.length - a := List.length_drop
  have hs1 : ∀ W : World, (Instr.slice 24 (.slice A s.length c) (some (.int .i64 (a : Int))) none none).run Tryd.prog W = .ok (.slice A' (s.drop a).length (c - a)) W := fun W => by
    have := cut_from (P := Tryd.prog) 24 5 .i64 htu hii 1 hisz A s.length c (a : Int) (by omega) (by omega) W
    rw [Int.toNat_natCast, hA'] at this
    rw [hdl]
    exact this
  clear hA'
  show Calls _ _ _ _ (DoesF W B b A s.length c e0 (e1 : Int) (e2 : Int) dv D (secQ (s.drop a) e1 e2 a (scanR (strOfNums (s.drop a)))))
  obtain ⟨r, hr⟩ : ∃ r, s.drop a = r := ⟨_, rfl⟩
  rw [hr] at HR HCD hdl hs1
  rw [hr]
  clear hr
  obtain ⟨n, hn, hnr⟩ := scanR_nat (strOfNums r)
  rw [strOfNums_size] at hnr
  have hss : (strOfNums r).size < 4000000000 := by rw [strOfNums_size]; omega
  obtain ⟨q, hq⟩ : ∃ q, scanR (strOfNums r) = q := ⟨_, rfl⟩
  have HSC := Aside0.mk (fun (W' : World) (hg : TabOk W') => block_Scan.calls (strOfNums r) q.1 q.2.1 q.2.2 W' hg (by unfold block_Scan.f; rw [if_pos hss, hq]))
  rw [hq] at hn
  rw [hq]
  clear hq hss
  obtain ⟨fl, qn, er⟩ := q
  dsimp only at hn HSC
  subst hn
  have htl : (r.take n).length = n := by rw [List.length_take]; omega
  have hs2 : ∀ W : World, (Instr.slice 24 (.slice A' r.length (c - a)) none (some (.int .i64 (n : Int))) none).run Tryd.prog W = .ok (.slice A' (r.take n).length (c - a)) W := fun W => by
    have := cut_to (P := Tryd.prog) 24 5 .i64 htu hii A' r.length (c - a) (n : Int) (by omega) (by omega) (by omega) W
    rw [Int.toNat_natCast] at this
    rw [htl]
    exact this
  have HCT := Aside0.mk (fun (W' : World) (h : Kd.C (Kd.int .u8) W' A s.length s) => Kd.C_take (m := n) (HCD.out W' h) (by omega))
  have HBY := Aside0.mk (fun (W' : World) (h : Kd.C (Kd.int .u8) W' A' (r.take n).length (r.take n)) => beyond_calls A' (c - a) (r.take n) (fun x hx => HR.out x (List.mem_of_mem_take hx)) (by rw [htl]; omega) (by rw [htl]; omega) e0 e1 e2 h1 h2 W' h)
  obtain ⟨bv, hbv⟩ : ∃ bv, beyL e1 e2 (linesB (r.take n)) 0 0 = bv := ⟨_, rfl⟩
  have hbvr : bv ≤ 1073741824 := by
    have := beyL_le e1 e2 (linesB (r.take n)) 0 0
    rw [hbv, linesB_flat] at this
    omega
  unfold secQ
  dsimp only
  rw [Int.toNat_natCast, hbv]
  rw [hbv] at HBY
  clear hbv
  have hrl : r.length ≤ 1073741824 := by omega
  have hna : n + a ≤ s.length := by omega
  have hna2 : (n : Int) + (a : Int) ≤ 1073741824 := by omega
  have HDL := Aside0.mk hdl
  obtain ⟨L, hL⟩ : ∃ L, r.take n = L := ⟨_, rfl⟩
  rw [hL] at htl hs2 HCT HBY
  have HTL := Aside0.mk htl
  clear hdl htl hL
  obtain ⟨M, hM⟩ : ∃ M : RM (List Fld), (if 0 ≤ bv then .error (a + bv.toNat, 5) else if er = 0 then .ok (fl, a + n) else .error (a + n, er)) = M := ⟨_, rfl⟩
  rw [hM]
  have HM := Aside0.mk hM
  clear hM
  have c0 := AT0.out.i.c0
  have c1 := AT0.out.i.c1
  have c2 := AT0.out.i.c2
  have c3 := AT0.out.i.c3
  have c4 := AT0.out.i.c4
  have hge : (0 : Int) ≤ (a : Int) := by omega
  have hge2 : (a : Int) ≤ (s.length : Int) := by omega
  have hge3 : (0 : Int) ≤ (n : Int) := by omega
  have hge4 : (n : Int) ≤ (r.length : Int) := by omega
  go_enter Tryd.func70, Tryd.ntmps70
  go_wp2_with fail
  go_region_held3 (fun W => W.cell? ⟨b, 0, none⟩ = some (.slice A s.length c) ∧ W.cell? ⟨b, 4, none⟩ = some (.int .i64 (a : Int))) (exact ⟨c0, c4⟩) (fail)
  have A1 := Aside0.mk (AT0.out.below hBb (below_drew (Below.refl _ _) : Below W.heap.size W W.drew))
  have hcv : (convert 24 9 (.slice A' r.length (c - a))).run Tryd.prog W.drew = .ok (.string (strOfNums r)) W.drew := Kd.C_string Tryd.underlying24 Tryd.underlying5 Tryd.underlying9 (HCD.out _ (HK.out _ _ _ _ A1.out).1)
  go_wp2_with fail
  refine (HSC.out _ (HK.out _ _ _ _ A1.out).2).mono ?_
  rintro e W2 ⟨fv, rfl, hR2, hb2⟩
  have A2 := Aside0.mk (A1.out.below hBb hb2)
  have HR2 := Aside0.mk (Kd.R_lower (base' := B) hR2 (Nat.le_trans hsz (Nat.le_refl _)))
  clear hR2 hb2 hcv
  obtain ⟨fA, fc, hfv⟩ := Kd.R_slice HR2.out
  subst hfv
  have d1 := A2.out.i.c1
  have d2 := A2.out.i.c2
  have d3 := A2.out.i.c3
  have d4 := A2.out.i.c4
  go_wp2_with fail
  have A3 := Aside0.mk (A2.out.below hBb (below_drew (Below.refl _ _) : Below W2.heap.size W2 W2.drew))
  have HBY3 := HBY.out W2.drew (HCT.out _ (HK.out _ _ _ _ A3.out).1)
  have HR3 := Aside0.mk (Kd.R_drew HR2.out)
  clear HBY HSC
  go_region_held3 (fun W => W.cell? ⟨b, 1, none⟩ = some (.int .i64 e0) ∧ W.cell? ⟨b, 2, none⟩ = some (.int .i64 (e1 : Int)) ∧ W.cell? ⟨b, 3, none⟩ = some (.int .i64 (e2 : Int))) (first | exact ⟨d1, d2, d3⟩ | exact ⟨x1, x2, x3⟩)
    (first | (go_at_call 84; refine HBY3.mono ?_; rintro e w4 ⟨rfl, hb4⟩; have A4 := Aside0.mk (A3.out.below hBb hb4); have HR4 := Aside0.mk (Kd.R_below HR3.out hb4); have x1 := A4.out.i.c1; have x2 := A4.out.i.c2; have x3 := A4.out.i.c3; clear hb4))
  have x4 := A4.out.i.c4
  have y4 := A4.out.i.fz 4
  clear d1 d2 d3 d4 x1 x2 x3 c0 c1 c2 c3 c4
  by_cases hbp : 0 ≤ bv
  · have HM2 := Aside0.mk (show (.error (a + bv.toNat, 5) : RM (List Fld)) = M by rw [← HM.out, if_pos hbp])
    obtain ⟨z, rfl⟩ := Int.eq_ofNat_of_zero_le hbp
    rw [Int.toNat_natCast] at HM2
    obtain ⟨m, hm⟩ : ∃ m, a + z = m := ⟨_, rfl⟩
    have hw4 : IntKind.i64.wrap ((a : Int) + (z : Int)) = (m : Int) := by
      unfold IntKind.wrap
      simp [IntKind.bits, IntKind.signed]
      omega
    rw [hm] at HM2
    clear hm HM
    have HMO := Aside0.mk (fun W' (h : W'.cell? ⟨b, 4, none⟩ = some (.int .i64 (m : Int))) => must_off b m 5 W' h)
    have A5 := Aside0.mk (A4.out.set4 hBb m)
    go_wp2_with fail
    refine (HMO.out _ A5.out.i.c4).mono ?_
    rintro e w7 ⟨rfl, rfl⟩
    refine ⟨rfl, ?_⟩
    show DoesF W B b A s.length c e0 (e1 : Int) (e2 : Int) dv D M _ _
    rw [← HM2.out]
    exact ⟨rfl, A5.out⟩
  · have HM2 := Aside0.mk (show (if er = 0 then .ok (fl, a + n) else .error (a + n, er) : RM (List Fld)) = M by rw [← HM.out, if_neg hbp])
    have hbp2 : decide ((0 : Int) ≤ bv) = false := decide_eq_false hbp
    obtain ⟨m, hm⟩ : ∃ m, a + n = m := ⟨_, rfl⟩
    have hw4 : IntKind.i64.wrap ((a : Int) + (n : Int)) = (m : Int) := by
      unfold IntKind.wrap
      simp [IntKind.bits, IntKind.signed]
      omega
    rw [hm] at HM2
    clear hm HM
    have A5 := Aside0.mk (A4.out.set4 hBb m)
    have HR5 := Aside0.mk (Kd.R_set HR4.out A4.out.i (by decide) 4 (.int .i64 (m : Int)))
    by_cases he : er = 0
    · subst he
      have HMO := Aside0.mk (fun W' => must_on b 0 W')
      rw [if_pos rfl] at HM2
      go_wp2_with fail
      refine (HMO.out _).mono ?_
      rintro e w7 ⟨rfl, rfl⟩
      go_wp2
      go_ret
      show DoesF W B b A s.length c e0 (e1 : Int) (e2 : Int) dv D M _ _
      rw [← HM2.out]
      exact ⟨_, _, _, rfl, HR5.out, A5.out⟩
    · have he2 : (er == 0) = false := by rw [beq_eq_false_iff_ne]; exact he
      rw [if_neg he] at HM2
      have HMO := Aside0.mk (fun W' (h : W'.cell? ⟨b, 4, none⟩ = some (.int .i64 (m : Int))) => must_off b m er W' h)
      go_wp2_with fail
      refine (HMO.out _ A5.out.i.c4).mono ?_
      rintro e w7 ⟨rfl, rfl⟩
      refine ⟨rfl, ?_⟩
      show DoesF W B b A s.length c e0 (e1 : Int) (e2 : Int) dv D M _ _
      rw [← HM2.out]
      exact ⟨rfl, A5.out⟩
end Go.Proofs.YtmmbpbgcobmifaaDoorH
end
section
namespace Go.Proofs.YtmmbpbgcobmifaaDoorH
open Go.RowKit Go.Proofs.YtmmbpbgcobmifaaDoorW.PrintWords Go.Proofs.YtmmbpbgcobmifaaDoorW.PrintLast Go.Proofs.YtmmbpbgcobmifaaDoorW.PrintMore
theorem at_i64 {w : World} {A : Option Addr} {n : Nat} {xs : List Int} (h : Kd.C (Kd.int .i64) w A n xs) (k : Nat) (hk : k < n) : ∃ ad, A = some ad ∧ w.cell? (ad.add k) = some (.int .i64 (xs.getD k 0)) := by
  obtain ⟨ad, c, e, _, hK, hc0⟩ := Kd.C_get h 0 (k : Int) (by omega) (by omega)
  have hc : ∀ j u, c[j]? = some u → w.cell? (ad.add ((k : Int).toNat * 1 + j)) = some u := hc0
  rw [Int.toNat_natCast] at hK hc
  have hK : c = [.int .i64 (xs.getD k 0)] := hK
  subst hK
  refine ⟨ad, e, ?_⟩
  have := hc 0 _ rfl
  rwa [Nat.mul_one, Nat.add_zero] at this
def minZ (l : List Int) : Int := (l.drop 1).foldl min (l.getD 0 0)
def maxZ (l : List Int) : Int := (l.drop 1).foldl max (l.getD 0 0)
def minToZ (l : List Int) (k : Nat) : Int := ((l.take k).drop 1).foldl min (l.getD 0 0)
def maxToZ (l : List Int) (k : Nat) : Int := ((l.take k).drop 1).foldl max (l.getD 0 0)
theorem drop_take_stepZ (l : List Int) (k : Nat) (h1 : 1 ≤ k) (h : k < l.length) : (l.take (k + 1)).drop 1 = (l.take k).drop 1 ++ [l.getD k 0] := by
  rw [take_one l 0 k h, List.drop_append_of_le_length (by rw [List.length_take]; omega)]
theorem minToZ_step (l : List Int) (k : Nat) (h1 : 1 ≤ k) (h : k < l.length) : minToZ l (k + 1) = min (minToZ l k) (l.getD k 0) := by
  unfold minToZ
  rw [drop_take_stepZ l k h1 h, List.foldl_append]
  rfl
theorem maxToZ_step (l : List Int) (k : Nat) (h1 : 1 ≤ k) (h : k < l.length) : maxToZ l (k + 1) = max (maxToZ l k) (l.getD k 0) := by
  unfold maxToZ
  rw [drop_take_stepZ l k h1 h, List.foldl_append]
  rfl
set_option maxHeartbeats 800000 in
set_option maxRecDepth 100000 in
theorem minZ_calls (A0 : Option Addr) (c0 : Nat) (l : List Int) (w : World) (hr : Kd.C (Kd.int .i64) w A0 l.length l) (hn : 0 < l.length) (hl : l.length < 8796093022208) :
    Calls Tryd.prog 49 #[.slice A0 l.length c0] w fun e w' => e = .returned (.int .i64 (minZ l)) ∧ w' = w := by
  obtain ⟨ad, e, hx0⟩ := at_i64 hr 0 hn
  subst e
  rw [show ad.add 0 = ad from rfl] at hx0
  have HR := Aside0.mk hr
  have hn1 : ¬ (l.length : Int) < 1 := by omega
  clear hr
  go_enter Tryd.func49, Tryd.ntmps49
  go_wp2
  go_loop [3, 4] (fun v3 v4 => ∃ k : Nat, 1 ≤ k ∧ k ≤ l.length ∧ v4 = .int .i64 k ∧ v3 = .int .i64 (minToZ l k)) (fun _ v4 => l.length - (intOf v4).toNat)
  case atStart => exact ⟨1, Nat.le_refl _, hn, rfl, congrArg (Value.int IntKind.i64) (by unfold minToZ; cases l with | nil => exact absurd hn (Nat.lt_irrefl _) | cons a l => rfl)⟩
  case round =>
    obtain ⟨k, h1, hk, rfl, rfl⟩ := hrel
    by_cases hlt : k < l.length
    · obtain ⟨ad', e, hxk⟩ := at_i64 HR.out k hlt
      cases e
      have HS := Aside0.mk (minToZ_step l k h1 hlt)
      generalize l.getD k 0 = y at *
      generalize hmk : minToZ l k = m at *
      go_wp2
      go_round
      case rel => exact ⟨k + 1, by omega, hlt, by go_num, by rw [HS.out]⟩
      case measure => simp [intOf]; omega
    · obtain rfl : k = l.length := by omega
      have HM := Aside0.mk (show minToZ l l.length = minZ l by unfold minToZ minZ; rw [List.take_length])
      go_wp2
      go_ret
      exact ⟨by first | rfl | (simp; done) | (rw [HM.out]; first | rfl | simp), rfl⟩
set_option maxHeartbeats 800000 in
set_option maxRecDepth 100000 in
theorem maxZ_calls (A0 : Option Addr) (c0 : Nat) (l : List Int) (w : World) (hr : Kd.C (Kd.int .i64) w A0 l.length l) (hn : 0 < l.length) (hl : l.length < 8796093022208) :
    Calls Tryd.prog 50 #[.slice A0 l.length c0] w fun e w' => e = .returned (.int .i64 (maxZ l)) ∧ w' = w := by
  obtain ⟨ad, e, hx0⟩ := at_i64 hr 0 hn
  subst e
  rw [show ad.add 0 = ad from rfl] at hx0
  have HR := Aside0.mk hr
  have hn1 : ¬ (l.length : Int) < 1 := by omega
  clear hr
  go_enter Tryd.func50, Tryd.ntmps50
  go_wp2
  go_loop [3, 4] (fun v3 v4 => ∃ k : Nat, 1 ≤ k ∧ k ≤ l.length ∧ v4 = .int .i64 k ∧ v3 = .int .i64 (maxToZ l k)) (fun _ v4 => l.length - (intOf v4).toNat)
  case atStart => exact ⟨1, Nat.le_refl _, hn, rfl, congrArg (Value.int IntKind.i64) (by unfold maxToZ; cases l with | nil => exact absurd hn (Nat.lt_irrefl _) | cons a l => rfl)⟩
  case round =>
    obtain ⟨k, h1, hk, rfl, rfl⟩ := hrel
    by_cases hlt : k < l.length
    · obtain ⟨ad', e, hxk⟩ := at_i64 HR.out k hlt
      cases e
      have HS := Aside0.mk (maxToZ_step l k h1 hlt)
      generalize l.getD k 0 = y at *
      generalize hmk : maxToZ l k = m at *
      go_wp2
      go_round
      case rel => exact ⟨k + 1, by omega, hlt, by go_num, by rw [HS.out]⟩
      case measure => simp [intOf]; omega
    · obtain rfl : k = l.length := by omega
      have HM := Aside0.mk (show maxToZ l l.length = maxZ l by unfold maxToZ maxZ; rw [List.take_length])
      go_wp2
      go_ret
      exact ⟨by first | rfl | (simp; done) | (rw [HM.out]; first | rfl | simp), rfl⟩
end Go.Proofs.YtmmbpbgcobmifaaDoorH
end
section
namespace Go.Proofs.YtmmbpbgcobmifaaDoorH
open Go.RowKit Go.Proofs.YtmmbpbgcobmifaaDoorW.PrintWords Go.Proofs.YtmmbpbgcobmifaaDoorW.PrintLast Go.Proofs.YtmmbpbgcobmifaaDoorW.PrintMore
def rightL (e0 e1 e2 : Int) : Bool := decide (0 ≤ e0) && decide (0 ≤ e1) && decide (0 ≤ e2) && decide (e0 ≤ 65536) && decide (e1 ≤ 65536) && decide (e2 ≤ 65536)
theorem minZ3 (a b c : Int) : minZ [a, b, c] = min (min a b) c := by simp [minZ, List.foldl]
theorem maxZ3 (a b c : Int) : maxZ [a, b, c] = max (max a b) c := by simp [maxZ, List.foldl]
theorem rightL_eq (a b c : Int) : rightL a b c = (decide (0 ≤ minZ [a, b, c]) && decide (maxZ [a, b, c] ≤ 65536)) := by
  rw [minZ3, maxZ3]
  unfold rightL
  rw [Bool.eq_iff_iff]
  simp only [Bool.and_eq_true, decide_eq_true_eq]
  omega
theorem C_three {W : World} {b : Nat} (a1 a2 a3 : Int) (h : W.heap[b]? = some (.cells #[.int .i64 a1, .int .i64 a2, .int .i64 a3] 3 (0, 0))) : Kd.C (Kd.int .i64) W (some ⟨b, 0, none⟩) ([a1, a2, a3] : List Int).length [a1, a2, a3] := by
  refine ⟨rfl, (show (3 : Nat) ≤ 9223372036854775807 by decide), fun _ => ⟨_, rfl, fun j x hx => ?_⟩⟩
  refine ⟨[.int .i64 x], rfl, rfl, fun i u hu => ?_⟩
  have e : i = 0 ∧ .int .i64 x = u := by
    cases i with
    | zero => exact ⟨rfl, by simpa using hu⟩
    | succ i => simp at hu
  obtain ⟨rfl, rfl⟩ := e
  match j, hx with
  | 0, hx => cases hx; exact World.news_of_block h 0 _ rfl
  | 1, hx => cases hx; exact World.news_of_block h 1 _ rfl
  | 2, hx => cases hx; exact World.news_of_block h 2 _ rfl
  | j + 3, hx => simp at hx
set_option maxHeartbeats 1600000 in
set_option maxRecDepth 100000 in
theorem bodyRight_calls (e0 e1 e2 : Int) (w : World) :
    Calls Tryd.prog 36 #[.agg #[.int .i64 e0, .int .i64 e1, .int .i64 e2]] w fun e w' => e = .returned (.bool (rightL e0 e1 e2)) ∧ Below w.heap.size w w' := by
  have HMI := Aside0.mk (fun W (h : W.heap[w.heap.size + 1]? = some (.cells #[.int .i64 e0, .int .i64 e1, .int .i64 e2] 3 (0, 0))) => minZ_calls (some ⟨w.heap.size + 1, 0, none⟩) 3 [e0, e1, e2] W (C_three e0 e1 e2 h) (show (0 : Nat) < 3 by decide) (show (3 : Nat) < 8796093022208 by decide))
  have HMA := Aside0.mk (fun W (h : W.heap[w.heap.size + 1]? = some (.cells #[.int .i64 e0, .int .i64 e1, .int .i64 e2] 3 (0, 0))) => maxZ_calls (some ⟨w.heap.size + 1, 0, none⟩) 3 [e0, e1, e2] W (C_three e0 e1 e2 h) (show (0 : Nat) < 3 by decide) (show (3 : Nat) < 8796093022208 by decide))
  have HE := Aside0.mk (rightL_eq e0 e1 e2)
  generalize minZ [e0, e1, e2] = x at *
  generalize maxZ [e0, e1, e2] = y at *
  have hb2 : ∀ o1 o2 : Obj, Below w.heap.size w ((w.alloc o1).alloc o2) := fun o1 o2 => below_alloc (below_alloc (Below.refl _ _) o1) o2
  have HB := Aside0.mk hb2
  clear hb2
  by_cases hx : 0 ≤ x
  · have hx' : decide (0 ≤ x) = true := decide_eq_true hx
    go_enter Tryd.func36, Tryd.ntmps36
    go_wp2_with fail
    refine (HMI.out _ (by simpa using heap_alloc_new (w.alloc _) _)).mono ?_
    rintro e w1 ⟨rfl, rfl⟩
    go_wp2_with fail
    refine (HMA.out _ (by simpa using heap_alloc_new (w.alloc _) _)).mono ?_
    rintro e w1 ⟨rfl, rfl⟩
    go_wp2
    go_ret
    refine ⟨?_, HB.out _ _⟩
    rw [HE.out, hx', Bool.true_and]
    rfl
  · have hx' : decide (0 ≤ x) = false := decide_eq_false hx
    go_enter Tryd.func36, Tryd.ntmps36
    go_wp2_with fail
    refine (HMI.out _ (by simpa using heap_alloc_new (w.alloc _) _)).mono ?_
    rintro e w1 ⟨rfl, rfl⟩
    go_wp2
    go_ret
    refine ⟨?_, HB.out _ _⟩
    rw [HE.out, hx', Bool.false_and]
    rfl
end Go.Proofs.YtmmbpbgcobmifaaDoorH
end
section
namespace Go.Proofs.YtmmbpbgcobmifaaDoor.Pr
end Go.Proofs.YtmmbpbgcobmifaaDoor.Pr
namespace Go.Proofs.YtmmbpbgcobmifaaDoorH
set_option linter.unusedVariables false
set_option linter.unusedSimpArgs false
open Go Go.RowKit Go.Proofs.YtmmbpbgcobmifaaDoorW.PrintWords Go.Proofs.YtmmbpbgcobmifaaDoorW.PrintLast Go.Proofs.YtmmbpbgcobmifaaDoorW.PrintMore Go.Proofs.YtmmbpbgcobmifaaDoor.Pr Go.Proofs.YtmmbpbgcobmifaaDoorM
def bodyM (s : List Int) (e0 e1 e2 : Nat) : RM (List Fld) × List Int := scannedM (secM s e1 e2) s (e0 : Int)
def RLF (B : Nat) (W : World) (v : Value) (l : List Fld) : Prop := Kd.R k53 53 W B (fun _ => True) v l
theorem RLF.far {B : Nat} {W W' : World} {v : Value} {l : List Fld} {g t : Nat} {cs : Array Value} (h : RLF B W v l) (hb : W.heap[g]? = some (.cells cs t (0, 0))) (ht : ∀ q, q ∈ 53 :: (k53).E → q ≠ t) (hm : ∀ k, ¬ k = g → W'.heap[k]? = W.heap[k]?) : RLF B W' v l :=
  Kd.R_mono (Kd.R_move (Kd.R_types h hb ht) (fun k hk => hm k hk.2)) (fun _ _ => trivial)
theorem RLF.far2 {B : Nat} {W W' : World} {v : Value} {l : List Fld} {bB bE : Nat} {cs1 cs2 : Array Value} (h : RLF B W v l) (h1 : W.heap[bB]? = some (.cells cs1 57 (0, 0))) (h2 : W.heap[bE]? = some (.cells cs2 87 (0, 0))) (hm : ∀ k, ¬ k = bB → ¬ k = bE → W'.heap[k]? = W.heap[k]?) : RLF B W' v l :=
  Kd.R_mono (Kd.R_move (Kd.R_types (Kd.R_types h h1 (by decide)) h2 (by decide)) (fun k hk => hm k hk.1.2 hk.2)) (fun _ _ => trivial)
theorem scanned_does (B b : Nat) (A : Option Addr) (c : Nat) (e0 e1 e2 : Nat) (s : List Int) (w : World) (h : IsR w b A s.length c (e0 : Int) (e1 : Int) (e2 : Int) 0 (.slice none 0 0)) (hBb : B ≤ b) (hBw : B ≤ w.heap.size) (hC : Keeps B w fun W => Kd.C (Kd.int .u8) W A s.length s ∧ TabOk W) (hs : ByteL s) (hl : s.length ≤ 1073741824) (hsc : s.length ≤ c) (h1 : e1 ≤ 65536) (h2 : e2 ≤ 65536) :
    Calls Tryd.prog 47 #[.pointer (some ⟨b, 0, none⟩)] w (DoesS w B b A s.length c (e0 : Int) (e1 : Int) (e2 : Int) (RLF B) (bodyM s e0 e1 e2).1 (bodyM s e0 e1 e2).2) :=
  scanned_try B b A c (e0 : Int) (e1 : Int) (e2 : Int) s w h hBb hBw hC hs hl hsc (RLF B) (secM s e1 e2)
    (fun w1 W a dv D hb hA ha => (section_does w1 W B b A c (e0 : Int) e1 e2 a dv D s hA hBb (Nat.le_trans hBw hb.size) (fun W' hW' => hC W' (hb.trans hW')) hs hl hsc ha h1 h2).mono fun e w' hd => by
      unfold DoesF at hd
      cases hm : secM s e1 e2 a with
      | ok x => rw [hm] at hd; exact hd
      | error x => rw [hm] at hd; exact hd)
    (fun W W' v l bB bE cs1 cs2 h hB hE hm => h.far2 hB hE hm)
def toldM : RM (List Fld) × List Int → List Int × List Fld × Int × Int × Int
  | (.ok (l, a), D) => (D, l, (a : Int), (a : Int), 0)
  | (.error (a, er), _) => ([], [], 0, (a : Int), er)
def scanT (s : List Int) (e0 e1 e2 : Nat) : List Int × List Fld × Int × Int × Int := toldM (bodyM s e0 e1 e2)
def DoesT (w : World) (T : List Int × List Fld × Int × Int × Int) (e : Ending) (w' : World) : Prop :=
  ∃ v0 v1, e = .returned (.tuple #[.agg #[v0, v1, .int .i64 T.2.2.1], .int .i64 T.2.2.2.1, .int .i64 T.2.2.2.2]) ∧
    Kd.R (Kd.int .u8) 5 w' w.heap.size (fun _ => True) v0 T.1 ∧ Kd.R k53 53 w' w.heap.size (fun _ => True) v1 T.2.1 ∧ Below w.heap.size w w'
theorem R_of_D {W : World} {base : Nat} {v : Value} {l : List Int} (h : RowD W base v l) : Kd.R (Kd.int .u8) 5 W base (fun _ => True) v l := by
  have h1 : W.ownsRow base 5 (Kd.int .u8).sz v l.length (l.flatMap fun x => [Value.int .u8 x]) := by
    rw [flat_one]
    exact h
  exact row_of_owns (Kd.int .u8) (fun x => [Value.int .u8 x]) (fun _ => rfl) (fun _ _ => rfl) h1
theorem does_unify {w w' : World} {B b : Nat} {A : Option Addr} {n c : Nat} {e0 e1 e2 : Int} {M : RM (List Fld) × List Int} {T : List Int × List Fld × Int × Int × Int} {e : Ending} (h : DoesS w B b A n c e0 e1 e2 (RLF B) M.1 M.2 e w')
    (hT : T = toldM M) :
    ∃ x0 x1, e = .returned (.tuple #[.agg #[x0, x1, .int .i64 T.2.2.1], .agg #[.int .i64 T.2.2.2.1, .int .i64 T.2.2.2.2]]) ∧ Kd.R (Kd.int .u8) 5 w' B (fun _ => True) x0 T.1 ∧ RLF B w' x1 T.2.1 ∧ Below B w w' ∧ Fore b w w' := by
  obtain ⟨M, D⟩ := M
  obtain ⟨dv, h⟩ := h
  rcases M with ⟨a, er⟩ | ⟨l, a⟩
  · obtain ⟨rfl, hA⟩ := h
    subst hT
    exact ⟨_, _, rfl, Kd.R_nil _ _ _ _ _, Kd.R_nil _ _ _ _ _, hA.b, hA.f⟩
  · obtain ⟨v, hv, rfl, hA⟩ := h
    subst hT
    exact ⟨dv, v, rfl, R_of_D hA.r, hv, hA.b, hA.f⟩
theorem setB3 (bB : Nat) (x0 x1 x2 : Value) (w : World) (v0 v1 v2 : Value) (hB : w.heap[bB]? = some (.cells #[v0, v1, v2] 57 (0, 0))) :
    (((w.setCell ⟨bB, 0, none⟩ x0).setCell ⟨bB, 1, none⟩ x1).setCell ⟨bB, 2, none⟩ x2).heap[bB]? = some (.cells #[x0, x1, x2] 57 (0, 0)) ∧
    Below bB w (((w.setCell ⟨bB, 0, none⟩ x0).setCell ⟨bB, 1, none⟩ x1).setCell ⟨bB, 2, none⟩ x2) ∧
    (∀ k, ¬ k = bB → (((w.setCell ⟨bB, 0, none⟩ x0).setCell ⟨bB, 1, none⟩ x1).setCell ⟨bB, 2, none⟩ x2).heap[k]? = w.heap[k]?) ∧
    (((w.setCell ⟨bB, 0, none⟩ x0).setCell ⟨bB, 1, none⟩ x1).setCell ⟨bB, 2, none⟩ x2).heap.size = w.heap.size := by
  have h1 := blk_set hB 0 x0
  have h2 := blk_set h1 1 x1
  have h3 := blk_set h2 2 x2
  refine ⟨h3, (((Below.refl _ _).setCell (p := ⟨bB, 0, none⟩) (Nat.le_refl _) _).setCell (p := ⟨bB, 1, none⟩) (Nat.le_refl _) _).setCell (p := ⟨bB, 2, none⟩) (Nat.le_refl _) _, fun k h => ?_, by simp⟩
  rw [Below.heap_setCell _ ⟨bB, 2, none⟩ _ k h, Below.heap_setCell _ ⟨bB, 1, none⟩ _ k h, Below.heap_setCell _ ⟨bB, 0, none⟩ _ k h]
theorem doesS_at {α : Type} {RL : World → Value → α → Prop} {w w' : World} {B b : Nat} {A : Option Addr} {n c : Nat} {e0 e1 e2 : Int} {m : RM α} {D : List Int} {e : Ending} (h : DoesS w B b A n c e0 e1 e2 RL m D e w') : ∃ v dv a, e = .returned v ∧ AtR w w' B b A n c e0 e1 e2 a dv D := by
  obtain ⟨dv, h⟩ := h
  rcases m with ⟨a, er⟩ | ⟨l, a⟩
  · obtain ⟨rfl, hA⟩ := h
    exact ⟨_, dv, a, rfl, hA⟩
  · obtain ⟨v, _, rfl, hA⟩ := h
    exact ⟨_, dv, a, rfl, hA⟩
theorem scan_start (w : World) (e0 e1 e2 : Int) :
    let W := (w.alloc (.cells #[.int .i64 e0, .int .i64 e1, .int .i64 e2] 23)).alloc (.cells zeroBody 57)
    W.heap.size = w.heap.size + 2 ∧ W.heap[w.heap.size]? = some (.cells #[.int .i64 e0, .int .i64 e1, .int .i64 e2] 23 (0, 0)) ∧ W.heap[w.heap.size + 1]? = some (.cells zeroBody 57 (0, 0)) ∧ Below w.heap.size w W := by
  have hs : ∀ (W : World) (o : Obj), (W.alloc o).heap.size = W.heap.size + 1 := fun W o => World.size_alloc W o
  refine ⟨by simp only [hs], alloc_keep _ (World.alloc_heap_new w _), ?_, below_alloc (below_alloc (Below.refl _ _) _) _⟩
  have := World.alloc_heap_new (w.alloc (.cells #[.int .i64 e0, .int .i64 e1, .int .i64 e2] 23)) (.cells zeroBody 57)
  rwa [hs] at this
set_option maxHeartbeats 8000000 in
set_option maxRecDepth 100000 in
theorem scan_bad (A : Option Addr) (n c : Nat) (e0 e1 e2 : Int) (w : World) (hr : rightL e0 e1 e2 = false) :
    Calls Tryd.prog 31 #[.slice A n c, .agg #[.int .i64 e0, .int .i64 e1, .int .i64 e2]] w fun e w' => e = .returned (.tuple #[.agg zeroBody, .int .i64 0, .int .i64 1]) ∧ Below w.heap.size w w' := by
  have HRI := Aside0.mk (fun W => bodyRight_calls e0 e1 e2 W)
  rw [hr] at HRI
  clear hr
  go_enter Tryd.func31, Tryd.ntmps31
  go_wp2_with fail
  refine (HRI.out _).mono ?_
  rintro e W2 ⟨rfl, hb2⟩
  obtain ⟨q1, q2, q3, q4⟩ := scan_start w e0 e1 e2
  have p3 : W2.heap[w.heap.size + 1]? = some (.cells zeroBody 57 (0, 0)) := (hb2.block _ (blk_lt q3)).trans q3
  have HBW := Aside0.mk (show Below w.heap.size w W2 from q4.trans (hb2.mono (by exact q4.size)))
  have k0 : W2.cell? ⟨w.heap.size + 1, 0, none⟩ = some (.slice none 0 0) := (blk_cell p3 0).trans rfl
  have k1 : W2.cell? ⟨w.heap.size + 1, 1, none⟩ = some (.slice none 0 0) := (blk_cell p3 1).trans rfl
  have k2 : W2.cell? ⟨w.heap.size + 1, 2, none⟩ = some (.int .i64 0) := (blk_cell p3 2).trans rfl
  have f0 : W2.frozen? ⟨w.heap.size + 1, 0, none⟩ = false := blk_frozen p3 0
  have f1 : W2.frozen? ⟨w.heap.size + 1, 1, none⟩ = false := blk_frozen p3 1
  have f2 : W2.frozen? ⟨w.heap.size + 1, 2, none⟩ = false := blk_frozen p3 2
  obtain ⟨W3, z1, z2, z3, _⟩ := setB (w.heap.size + 1) _ _ _ W2 p3
  have Z1 := Aside0.mk z1
  have Z2 := Aside0.mk z2
  have Z3 := Aside0.mk z3
  clear hb2 q1 q2 q3 q4 p3 z1 z2 z3
  go_wp2
  rw [Z1.out]
  refine bodyPost_ret (results_ctt rfl _ _ (w.heap.size + 1) 57 zeroBody (0, 0) _ rfl Z2.out Tryd.underlying57 rfl (by kernel_rfl)) rfl ?_
  exact ⟨rfl, HBW.out.trans (Z3.out.mono (Nat.le_succ _))⟩
set_option maxHeartbeats 8000000 in
set_option maxRecDepth 100000 in
theorem scan_good (A : Option Addr) (c : Nat) (s : List Int) (e0 e1 e2 : Nat) (w : World) (hr : rightL (e0 : Int) (e1 : Int) (e2 : Int) = true) (h1 : e1 ≤ 65536) (h2 : e2 ≤ 65536) (hC : Kd.C (Kd.int .u8) w A s.length s) (hG : TabOk w) (hs : ByteL s) (hl : s.length ≤ 1073741824) (hsc : s.length ≤ c) :
    Calls Tryd.prog 31 #[.slice A s.length c, .agg #[.int .i64 (e0 : Int), .int .i64 (e1 : Int), .int .i64 (e2 : Int)]] w (DoesT w (scanT s e0 e1 e2)) := by
  have HRI := Aside0.mk (fun W => bodyRight_calls (e0 : Int) (e1 : Int) (e2 : Int) W)
  rw [hr] at HRI
  have HK := Aside0.mk (fun (W : World) (h : Below w.heap.size w W) => (⟨Kd.C_below hC h, hG.below h⟩ : Kd.C (Kd.int .u8) W A s.length s ∧ TabOk W))
  have HSD := Aside0.mk (fun (b : Nat) (W : World) (hi : IsR W b A s.length c (e0 : Int) (e1 : Int) (e2 : Int) 0 (.slice none 0 0)) (hb : w.heap.size ≤ b) (hw : Below w.heap.size w W) => scanned_does w.heap.size b A c e0 e1 e2 s W hi hb hw.size (fun W' hW' => HK.out W' (hw.trans hW')) hs hl hsc h1 h2)
  have HT := Aside0.mk (show scanT s e0 e1 e2 = toldM (bodyM s e0 e1 e2) from rfl)
  generalize scanT s e0 e1 e2 = T at *
  generalize bodyM s e0 e1 e2 = M at *
  clear hr hC hG hs
  go_enter Tryd.func31, Tryd.ntmps31
  go_wp2_with fail
  refine (HRI.out _).mono ?_
  rintro e W2 ⟨rfl, hb2⟩
  obtain ⟨q1, q2, q3, q4⟩ := scan_start w (e0 : Int) (e1 : Int) (e2 : Int)
  have p2 : W2.heap[w.heap.size]? = some (.cells #[.int .i64 (e0 : Int), .int .i64 (e1 : Int), .int .i64 (e2 : Int)] 23 (0, 0)) := (hb2.block _ (blk_lt q2)).trans q2
  have p3 : W2.heap[w.heap.size + 1]? = some (.cells zeroBody 57 (0, 0)) := (hb2.block _ (blk_lt q3)).trans q3
  have hbw : Below w.heap.size w W2 := q4.trans (hb2.mono (by exact q4.size))
  have m0 : W2.cell? ⟨w.heap.size, 0, none⟩ = some (.int .i64 (e0 : Int)) := (blk_cell p2 0).trans rfl
  have m1 : W2.cell? ⟨w.heap.size, 1, none⟩ = some (.int .i64 (e1 : Int)) := (blk_cell p2 1).trans rfl
  have m2 : W2.cell? ⟨w.heap.size, 2, none⟩ = some (.int .i64 (e2 : Int)) := (blk_cell p2 2).trans rfl
  have HB2 := Aside0.mk hbw
  have P3 := Aside0.mk p3
  clear hb2 q1 q2 q3 q4 p2 p3 hbw
  go_wp2_with fail
  have HAL := Aside0.mk (below_alloc HB2.out (.cells #[.slice A s.length c, .int .i64 (e0 : Int), .int .i64 (e1 : Int), .int .i64 (e2 : Int), .int .i64 0, .slice none 0 0] 85))
  refine (HSD.out W2.heap.size _ (World.alloc_heap_new W2 _) HB2.out.size HAL.out).mono ?_
  rintro e w3 hd
  obtain ⟨x0, x1, rfl, hx0, hx1, hb3, hf3⟩ := does_unify hd HT.out
  have hB3 : w3.heap[w.heap.size + 1]? = some (.cells zeroBody 57 (0, 0)) := hf3 _ _ _ (by decide) (by have := blk_lt P3.out; omega) (alloc_keep _ P3.out)
  have HB3 := Aside0.mk (HAL.out.trans hb3)
  obtain ⟨a0, k0, rfl⟩ := Kd.R_slice hx0
  obtain ⟨a1, k1, rfl⟩ := Kd.R_slice hx1
  obtain ⟨tD, tl, ts, ta, te⟩ := T
  dsimp only at hx0 hx1 ⊢
  have hlt3 := blk_lt hB3
  have HX0 := Aside0.mk hx0
  have HX1 := Aside0.mk hx1
  clear hd hb3 hf3 hx0 hx1 HT HSD HRI HK
  obtain ⟨s1, s2, s3, s4⟩ := setB3 (w.heap.size + 1) (.slice a0 tD.length k0) (.slice a1 tl.length k1) (.int .i64 ts) w3 _ _ _ hB3
  have n0 : w3.cell? ⟨w.heap.size + 1, 0, none⟩ = some (.slice none 0 0) := (blk_cell hB3 0).trans rfl
  have n1 : w3.cell? ⟨w.heap.size + 1, 1, none⟩ = some (.slice none 0 0) := (blk_cell hB3 1).trans rfl
  have n2 : w3.cell? ⟨w.heap.size + 1, 2, none⟩ = some (.int .i64 0) := (blk_cell hB3 2).trans rfl
  have f0 : w3.frozen? ⟨w.heap.size + 1, 0, none⟩ = false := blk_frozen hB3 0
  have f1 : w3.frozen? ⟨w.heap.size + 1, 1, none⟩ = false := blk_frozen hB3 1
  have f2 : w3.frozen? ⟨w.heap.size + 1, 2, none⟩ = false := blk_frozen hB3 2
  have HB3' := Aside0.mk hB3
  have S1 := Aside0.mk s1
  have S2 := Aside0.mk s2
  have S3 := Aside0.mk s3
  have S4 := Aside0.mk s4
  clear hB3 s1 s2 s3 s4
  go_wp2_with fail
  obtain ⟨W4, hW4⟩ : ∃ W4, ((w3.setCell ⟨w.heap.size + 1, 0, none⟩ (.slice a0 tD.length k0)).setCell ⟨w.heap.size + 1, 1, none⟩ (.slice a1 tl.length k1)).setCell ⟨w.heap.size + 1, 2, none⟩ (.int .i64 ts) = W4 := ⟨_, rfl⟩
  rw [hW4] at S1 S2 S3 S4
  rw [hW4]
  have hE5 := World.alloc_heap_new W4 (.cells #[.int .i64 ta, .int .i64 te] 87)
  have hB5 := alloc_keep (.cells #[.int .i64 ta, .int .i64 te] 87) S1.out
  have hb5 : Below W4.heap.size W4 (W4.alloc (.cells #[.int .i64 ta, .int .i64 te] 87)) := below_alloc (Below.refl _ _) _
  rw [S4.out] at hE5
  have HX15 := Aside0.mk (show RLF w.heap.size (W4.alloc (.cells #[.int .i64 ta, .int .i64 te] 87)) (.slice a1 tl.length k1) tl from Kd.R_below (RLF.far HX1.out HB3'.out (by decide) S3.out) hb5)
  have HX05 := Aside0.mk (show Kd.R (Kd.int .u8) 5 (W4.alloc (.cells #[.int .i64 ta, .int .i64 te] 87)) w.heap.size (fun _ => True) (.slice a0 tD.length k0) tD from
    Kd.R_below (Kd.R_mono (Kd.R_move (Kd.R_types HX0.out HB3'.out (by decide)) (fun k hk => S3.out k hk.2)) (fun _ _ => trivial)) hb5)
  have HBL5 := Aside0.mk (show Below w.heap.size w (W4.alloc (.cells #[.int .i64 ta, .int .i64 te] 87)) from below_alloc (HB3.out.trans (S2.out.mono (Nat.le_succ _))) _)
  generalize W4.alloc (.cells #[.int .i64 ta, .int .i64 te] 87) = W5 at *
  clear hb5 hW4 n0 n1 n2 f0 f1 f2 S1 S2 S3 S4
  generalize hbB : w.heap.size + 1 = bB at *
  generalize hbE : w3.heap.size = bE at *
  have HbB := Aside0.mk hbB
  clear hbE
  obtain ⟨s1, s2, s3, s4⟩ := setB3 bB (.slice a0 tD.length k0) (.slice a1 tl.length k1) (.int .i64 ts) W5 _ _ _ hB5
  have S1 := Aside0.mk s1
  have S2 := Aside0.mk s2
  have S3 := Aside0.mk s3
  have hne : ¬ bE = bB := by omega
  have hE6 := (s3 bE hne).trans hE5
  have u0 : (((W5.setCell ⟨bB, 0, none⟩ (.slice a0 tD.length k0)).setCell ⟨bB, 1, none⟩ (.slice a1 tl.length k1)).setCell ⟨bB, 2, none⟩ (.int .i64 ts)).drew.cell? ⟨bB, 0, none⟩ = some (.slice a0 tD.length k0) := (blk_cell s1 0).trans rfl
  have u1 : (((W5.setCell ⟨bB, 0, none⟩ (.slice a0 tD.length k0)).setCell ⟨bB, 1, none⟩ (.slice a1 tl.length k1)).setCell ⟨bB, 2, none⟩ (.int .i64 ts)).drew.cell? ⟨bB, 1, none⟩ = some (.slice a1 tl.length k1) := (blk_cell s1 1).trans rfl
  have u2 : (((W5.setCell ⟨bB, 0, none⟩ (.slice a0 tD.length k0)).setCell ⟨bB, 1, none⟩ (.slice a1 tl.length k1)).setCell ⟨bB, 2, none⟩ (.int .i64 ts)).drew.cell? ⟨bB, 2, none⟩ = some (.int .i64 ts) := (blk_cell s1 2).trans rfl
  have u3 : (((W5.setCell ⟨bB, 0, none⟩ (.slice a0 tD.length k0)).setCell ⟨bB, 1, none⟩ (.slice a1 tl.length k1)).setCell ⟨bB, 2, none⟩ (.int .i64 ts)).drew.cell? ⟨bE, 0, none⟩ = some (.int .i64 ta) := (blk_cell hE6 0).trans rfl
  have u4 : (((W5.setCell ⟨bB, 0, none⟩ (.slice a0 tD.length k0)).setCell ⟨bB, 1, none⟩ (.slice a1 tl.length k1)).setCell ⟨bB, 2, none⟩ (.int .i64 ts)).drew.cell? ⟨bE, 1, none⟩ = some (.int .i64 te) := (blk_cell hE6 1).trans rfl
  have n0 : W5.cell? ⟨bB, 0, none⟩ = some (.slice a0 tD.length k0) := (blk_cell hB5 0).trans rfl
  have n1 : W5.cell? ⟨bB, 1, none⟩ = some (.slice a1 tl.length k1) := (blk_cell hB5 1).trans rfl
  have n2 : W5.cell? ⟨bB, 2, none⟩ = some (.int .i64 ts) := (blk_cell hB5 2).trans rfl
  have n3 : W5.cell? ⟨bE, 0, none⟩ = some (.int .i64 ta) := (blk_cell hE5 0).trans rfl
  have n4 : W5.cell? ⟨bE, 1, none⟩ = some (.int .i64 te) := (blk_cell hE5 1).trans rfl
  have d0 : W5.drew.cell? ⟨bB, 0, none⟩ = some (.slice a0 tD.length k0) := n0
  have d1 : W5.drew.cell? ⟨bB, 1, none⟩ = some (.slice a1 tl.length k1) := n1
  have d2 : W5.drew.cell? ⟨bB, 2, none⟩ = some (.int .i64 ts) := n2
  have d3 : W5.drew.cell? ⟨bE, 0, none⟩ = some (.int .i64 ta) := n3
  have d4 : W5.drew.cell? ⟨bE, 1, none⟩ = some (.int .i64 te) := n4
  have f0 : W5.frozen? ⟨bB, 0, none⟩ = false := blk_frozen hB5 0
  have f1 : W5.frozen? ⟨bB, 1, none⟩ = false := blk_frozen hB5 1
  have f2 : W5.frozen? ⟨bB, 2, none⟩ = false := blk_frozen hB5 2
  have HB5 := Aside0.mk hB5
  clear s1 s2 s3 s4 hE6 hB5 hE5 hbB
  go_region_held3 (fun W => W.cell? ⟨bB, 0, none⟩ = some (.slice a0 tD.length k0) ∧ W.cell? ⟨bB, 1, none⟩ = some (.slice a1 tl.length k1) ∧ W.cell? ⟨bB, 2, none⟩ = some (.int .i64 ts) ∧ W.cell? ⟨bE, 0, none⟩ = some (.int .i64 ta) ∧ W.cell? ⟨bE, 1, none⟩ = some (.int .i64 te))
    (first | with_reducible exact ⟨d0, d1, d2, d3, d4⟩ | with_reducible exact ⟨u0, u1, u2, u3, u4⟩) (fail)
  all_goals
    generalize hW6 : (((W5.setCell ⟨bB, 0, none⟩ (.slice a0 tD.length k0)).setCell ⟨bB, 1, none⟩ (.slice a1 tl.length k1)).setCell ⟨bB, 2, none⟩ (.int .i64 ts)) = W6 at *
    clear d0 d1 d2 d3 d4 u0 u1 u2 u3 u4 n0 n1 n2 n3 n4 f0 f1 f2 m0 m1 m2
    go_wp2
    refine bodyPost_ret (results_ctt rfl _ _ bB 57 #[.slice a0 tD.length k0, .slice a1 tl.length k1, .int .i64 ts] (0, 0) _ rfl S1.out Tryd.underlying57 rfl (by kernel_rfl)) rfl ?_
    refine ⟨_, _, rfl, ?_, ?_, ?_⟩
    · exact Kd.R_drew (Kd.R_mono (Kd.R_move (Kd.R_types HX05.out HB5.out (by decide)) (fun k hk => S3.out k hk.2)) (fun _ _ => trivial))
    · exact Kd.R_drew (RLF.far HX15.out HB5.out (by decide) S3.out)
    · exact below_drew (HBL5.out.trans (S2.out.mono (by rw [← HbB.out]; exact Nat.le_succ _)))
set_option maxHeartbeats 8000000 in
set_option maxRecDepth 100000 in
theorem payload_bad (A : Option Addr) (n c : Nat) (e0 e1 e2 : Int) (w : World) (hr : rightL e0 e1 e2 = false) :
    Calls Tryd.prog 35 #[.slice A n c, .agg #[.int .i64 e0, .int .i64 e1, .int .i64 e2]] w fun e w' => e = .returned (.slice none 0 0) ∧ Below w.heap.size w w' := by
  have HRI := Aside0.mk (fun W => bodyRight_calls e0 e1 e2 W)
  rw [hr] at HRI
  clear hr
  have HAL := Aside0.mk (below_alloc (Below.refl w.heap.size w) (.cells #[.int .i64 e0, .int .i64 e1, .int .i64 e2] 23))
  go_enter Tryd.func35, Tryd.ntmps35
  go_wp2_with fail
  refine (HRI.out _).mono ?_
  rintro e W2 ⟨rfl, hb2⟩
  have HB2 := Aside0.mk (HAL.out.trans (hb2.mono HAL.out.size))
  clear hb2
  go_wp2
  go_ret
  exact ⟨rfl, HB2.out⟩
set_option maxHeartbeats 8000000 in
set_option maxRecDepth 100000 in
theorem payload_good (A : Option Addr) (c : Nat) (s : List Int) (e0 e1 e2 : Nat) (w : World) (hr : rightL (e0 : Int) (e1 : Int) (e2 : Int) = true) (h1 : e1 ≤ 65536) (h2 : e2 ≤ 65536) (hC : Kd.C (Kd.int .u8) w A s.length s) (hG : TabOk w) (hs : ByteL s) (hl : s.length ≤ 1073741824) (hsc : s.length ≤ c) :
    Calls Tryd.prog 35 #[.slice A s.length c, .agg #[.int .i64 (e0 : Int), .int .i64 (e1 : Int), .int .i64 (e2 : Int)]] w fun e w' => ∃ v0, e = .returned v0 ∧ Kd.R (Kd.int .u8) 5 w' w.heap.size (fun _ => True) v0 (bodyM s e0 e1 e2).2 ∧ Below w.heap.size w w' := by
  have HRI := Aside0.mk (fun W => bodyRight_calls (e0 : Int) (e1 : Int) (e2 : Int) W)
  rw [hr] at HRI
  have HK := Aside0.mk (fun (W : World) (h : Below w.heap.size w W) => (⟨Kd.C_below hC h, hG.below h⟩ : Kd.C (Kd.int .u8) W A s.length s ∧ TabOk W))
  have HSD := Aside0.mk (fun (b : Nat) (W : World) (hi : IsR W b A s.length c (e0 : Int) (e1 : Int) (e2 : Int) 0 (.slice none 0 0)) (hb : w.heap.size ≤ b) (hw : Below w.heap.size w W) => scanned_does w.heap.size b A c e0 e1 e2 s W hi hb hw.size (fun W' hW' => HK.out W' (hw.trans hW')) hs hl hsc h1 h2)
  generalize bodyM s e0 e1 e2 = M at *
  clear hr hC hG hs
  have hal := below_alloc (Below.refl w.heap.size w) (.cells #[.int .i64 (e0 : Int), .int .i64 (e1 : Int), .int .i64 (e2 : Int)] 23)
  have hq := World.alloc_heap_new w (.cells #[.int .i64 (e0 : Int), .int .i64 (e1 : Int), .int .i64 (e2 : Int)] 23)
  have HQ := Aside0.mk hq
  have HAL := Aside0.mk hal
  clear hal hq
  go_enter Tryd.func35, Tryd.ntmps35
  go_wp2_with fail
  refine (HRI.out _).mono ?_
  rintro e W2 ⟨rfl, hb2⟩
  have p2 : W2.heap[w.heap.size]? = some (.cells #[.int .i64 (e0 : Int), .int .i64 (e1 : Int), .int .i64 (e2 : Int)] 23 (0, 0)) := (hb2.block _ (blk_lt HQ.out)).trans HQ.out
  have m0 : W2.cell? ⟨w.heap.size, 0, none⟩ = some (.int .i64 (e0 : Int)) := (blk_cell p2 0).trans rfl
  have m1 : W2.cell? ⟨w.heap.size, 1, none⟩ = some (.int .i64 (e1 : Int)) := (blk_cell p2 1).trans rfl
  have m2 : W2.cell? ⟨w.heap.size, 2, none⟩ = some (.int .i64 (e2 : Int)) := (blk_cell p2 2).trans rfl
  have HB2 := Aside0.mk (HAL.out.trans (hb2.mono HAL.out.size))
  clear hb2 p2
  go_wp2_with fail
  have HB3 := Aside0.mk (below_alloc HB2.out (.cells #[.slice A s.length c, .int .i64 (e0 : Int), .int .i64 (e1 : Int), .int .i64 (e2 : Int), .int .i64 0, .slice none 0 0] 85))
  refine (HSD.out W2.heap.size _ (World.alloc_heap_new W2 _) HB2.out.size HB3.out).mono ?_
  rintro e w3 hd
  obtain ⟨v, dv, a, rfl, hA⟩ := doesS_at hd
  have HA := Aside0.mk hA
  obtain ⟨A1, kc, q1, _, _⟩ := hA.r.reads
  subst q1
  have c5 := hA.i.c5
  have HR := Aside0.mk (R_of_D hA.r)
  clear hd hA
  go_wp2
  go_ret
  exact ⟨_, rfl, HR.out, HB3.out.trans HA.out.b⟩
def byteB (l : List Int) : Bool := l.all fun x => decide (0 ≤ x) && decide (x ≤ 255)
theorem byteB_iff {l : List Int} : byteB l = true ↔ ByteL l := by
  unfold byteB ByteL
  simp [List.all_eq_true]
theorem rightL_nat {a b c : Int} (h : rightL a b c = true) : ∃ x y z : Nat, a = (x : Int) ∧ b = (y : Int) ∧ c = (z : Int) ∧ x ≤ 65536 ∧ y ≤ 65536 ∧ z ≤ 65536 := by
  unfold rightL at h
  simp only [Bool.and_eq_true, decide_eq_true_eq] at h
  exact ⟨a.toNat, b.toNat, c.toNat, by omega, by omega, by omega, by omega, by omega, by omega⟩
def body_Right.f (a0 a1 a2 : Int) : Option Bool := some (rightL a0 a1 a2)
theorem body_Right.calls (a0_0 a0_1 a0_2 : Int) (r : Bool) (w : World) (hG : TabOk w) (h : body_Right.f a0_0 a0_1 a0_2 = some r) :
    Calls Tryd.prog 36 #[.agg #[.int .i64 a0_0, .int .i64 a0_1, .int .i64 a0_2]] w fun e w' => e = .returned (.bool r) ∧ Below w.heap.size w w' := by
  unfold body_Right.f at h
  injection h with h
  subst h
  exact bodyRight_calls _ _ _ w
def body_Scan.f (l0 : List Int) (a1_0 a1_1 a1_2 : Int) : Option (List Int × List S53 × Int × Int × Int) :=
  if l0.length ≤ 1073741824 ∧ byteB l0 = true then some (if rightL a1_0 a1_1 a1_2 = true then scanT l0 a1_0.toNat a1_1.toNat a1_2.toNat else ([], [], 0, 0, 1)) else none
theorem body_Scan.calls (A0 : Option Addr) (c0 : Nat) (l0 : List Int) (a1_0 a1_1 a1_2 : Int) (r1 : List Int) (r2 : List S53) (r3 r4 r5 : Int) (w : World) (hr0 : Kd.C (Kd.int .u8) w A0 l0.length l0) (hc0 : l0.length ≤ c0) (hG : TabOk w) (h : body_Scan.f l0 a1_0 a1_1 a1_2 = some (r1, r2, r3, r4, r5)) :
    Calls Tryd.prog 31 #[.slice A0 l0.length c0, .agg #[.int .i64 a1_0, .int .i64 a1_1, .int .i64 a1_2]] w fun e w' => ∃ v0_ v1_ : Value, e = .returned (.tuple #[.agg #[v0_, v1_, .int .i64 r3], .int .i64 r4, .int .i64 r5]) ∧ Kd.R (Kd.int .u8) 5 w' w.heap.size (fun _ => True) v0_ r1 ∧ Kd.R k53 53 w' w.heap.size (fun _ => True) v1_ r2 ∧ Below w.heap.size w w' := by
  unfold body_Scan.f at h
  split at h
  · rename_i hh
    injection h with h
    by_cases hr : rightL a1_0 a1_1 a1_2 = true
    · rw [if_pos hr] at h
      obtain ⟨x, y, z, rfl, rfl, rfl, _, hy, hz⟩ := rightL_nat hr
      simp only [Int.toNat_natCast] at h
      refine (scan_good A0 c0 l0 x y z w hr hy hz hr0 hG (byteB_iff.1 hh.2) hh.1 hc0).mono ?_
      rintro e w' hd
      rw [h] at hd
      exact hd
    · rw [if_neg hr] at h
      cases h
      refine (scan_bad A0 l0.length c0 a1_0 a1_1 a1_2 w (by simpa using hr)).mono ?_
      rintro e w' ⟨rfl, hb⟩
      exact ⟨_, _, rfl, Kd.R_nil _ _ _ _ _, Kd.R_nil _ _ _ _ _, hb⟩
  · cases h
def body_Payload.f (l0 : List Int) (a1_0 a1_1 a1_2 : Int) : Option (List Int) :=
  if l0.length ≤ 1073741824 ∧ byteB l0 = true then some (if rightL a1_0 a1_1 a1_2 = true then (bodyM l0 a1_0.toNat a1_1.toNat a1_2.toNat).2 else []) else none
theorem body_Payload.calls (A0 : Option Addr) (c0 : Nat) (l0 : List Int) (a1_0 a1_1 a1_2 : Int) (r : List Int) (w : World) (hr0 : Kd.C (Kd.int .u8) w A0 l0.length l0) (hc0 : l0.length ≤ c0) (hG : TabOk w) (h : body_Payload.f l0 a1_0 a1_1 a1_2 = some r) :
    Calls Tryd.prog 35 #[.slice A0 l0.length c0, .agg #[.int .i64 a1_0, .int .i64 a1_1, .int .i64 a1_2]] w fun e w' => ∃ v0_ : Value, e = .returned v0_ ∧ Kd.R (Kd.int .u8) 5 w' w.heap.size (fun _ => True) v0_ r ∧ Below w.heap.size w w' := by
  unfold body_Payload.f at h
  split at h
  · rename_i hh
    injection h with h
    by_cases hr : rightL a1_0 a1_1 a1_2 = true
    · rw [if_pos hr] at h
      obtain ⟨x, y, z, rfl, rfl, rfl, _, hy, hz⟩ := rightL_nat hr
      simp only [Int.toNat_natCast] at h
      subst h
      exact payload_good A0 c0 l0 x y z w hr hy hz hr0 hG (byteB_iff.1 hh.2) hh.1 hc0
    · rw [if_neg hr] at h
      subst h
      refine (payload_bad A0 l0.length c0 a1_0 a1_1 a1_2 w (by simpa using hr)).mono ?_
      rintro e w' ⟨rfl, hb⟩
      exact ⟨_, rfl, Kd.R_nil _ _ _ _ _, hb⟩
  · cases h
end Go.Proofs.YtmmbpbgcobmifaaDoorH
end
section
namespace Go.Proofs.YtmmbpbgcobmifaaDoor.Pr
end Go.Proofs.YtmmbpbgcobmifaaDoor.Pr
namespace Go.Proofs.YtmmbpbgcobmifaaDoorH
set_option linter.unusedVariables false
set_option linter.unusedSimpArgs false
open Go.RowKit Go.Proofs.YtmmbpbgcobmifaaDoorW.PrintWords Go.Proofs.YtmmbpbgcobmifaaDoorW.PrintLast Go.Proofs.YtmmbpbgcobmifaaDoorW.PrintMore Go.Proofs.YtmmbpbgcobmifaaDoor.Pr Go.Proofs.YtmmbpbgcobmifaaDoorM
def pfM (l : List Int) : Fld := fldOf (strOfNums l)
def envM (e0 e1 e2 : Nat) : MEnv Fld := ⟨digI, textB, tokI, pfM, e0, e1, e2⟩
theorem all256 {p : Int → Prop} (h : ∀ n : Fin 256, p (n.val : Int)) {c : Int} (hc : 0 ≤ c ∧ c ≤ 255) : p c := by
  have := h ⟨c.toNat, by omega⟩
  rw [show ((⟨c.toNat, by omega⟩ : Fin 256).val : Int) = c by show (c.toNat : Int) = c; omega] at this
  exact this
theorem goodM (e0 e1 e2 : Nat) : Good (envM e0 e1 e2) :=
  ⟨fun _ => rfl, fun _ => rfl, by decide +kernel, by decide +kernel, by decide +kernel, by decide +kernel, by decide +kernel, (show tokI 13 = false by decide +kernel), (show tokI 10 = false by decide +kernel), (show tokI 58 = false by decide +kernel)⟩
theorem nextM (e0 e1 e2 : Nat) : NextOk (envM e0 e1 e2) nxt (fun c => 0 ≤ c ∧ c ≤ 255) :=
  ⟨fun _ hc => all256 (p := fun c => nxt 0 c = if c = 13 then (4, true) else (1, tokI c)) (by decide +kernel) hc,
   fun _ hc => all256 (p := fun c => nxt 1 c = if c = 58 then (2, true) else (1, tokI c)) (by decide +kernel) hc,
   fun _ hc => all256 (p := fun c => nxt 2 c = if c = 13 then (3, true) else (2, textB c)) (by decide +kernel) hc,
   fun _ hc => all256 (p := fun c => nxt 3 c = (0, c == 10)) (by decide +kernel) hc,
   fun _ hc => all256 (p := fun c => nxt 4 c = (5, c == 10)) (by decide +kernel) hc,
   (show tokI 10 = false by decide +kernel), (show tokI 13 = false by decide +kernel), (show textB 10 = false by decide +kernel), (show textB 13 = false by decide +kernel)⟩
theorem bt_nums {r : List Int} (hb : ByteL r) {i : Nat} (h : i < r.length) : bt (strOfNums r) (i : Int) = r.getD i 0 := by
  have hs : (strOfNums r).size = r.length := Go.strOfNums_size r
  rw [bt_nat _ i (by omega), strOfNums_data]
  have hx := hb _ (List.getElem_mem h)
  rw [List.getD_eq_getElem?_getD, List.getD_eq_getElem?_getD, List.getElem?_map, List.getElem?_eq_getElem h]
  simp only [Option.map_some, Option.getD_some]
  rw [UInt8.toNat_ofNat']
  omega
theorem scanP_I {r : List Int} (hb : ByteL r) : ∀ (k i : Nat) (st : Int), i ≤ r.length → r.length - i < k → scanP k (strOfNums r) i st = scanI nxt i (r.drop i) st
  | 0, i, st, h1, h2 => by omega
  | k + 1, i, st, h1, h2 => by
    have hs : (strOfNums r).size = r.length := Go.strOfNums_size r
    by_cases h : i < r.length
    · rw [scanP, if_pos (by omega), bt_nums hb h, drop_at h, scanI, scanP_I hb k (i + 1) _ (by omega) (by omega)]
    · rw [scanP, if_neg (by omega), List.drop_eq_nil_of_le (by omega), scanI]
theorem u8_ne {c : Int} (hc : 0 ≤ c ∧ c ≤ 255) {d : Nat} (hd : d < 256) (h : c ≠ (d : Int)) : UInt8.ofNat c.toNat ≠ UInt8.ofNat d := by
  intro e
  have := congrArg UInt8.toNat e
  rw [UInt8.toNat_ofNat', UInt8.toNat_ofNat'] at this
  omega
theorem index_crlfM : ∀ (a r : List UInt8), (∀ c ∈ a, c ≠ 13) → Lib.index (a ++ 13 :: 10 :: r) [13, 10] = (a.length : Int)
  | [], r, _ => by
    rw [List.nil_append, Lib.index, if_pos (by rfl)]
    rfl
  | c :: a, r, h => by
    have ih := index_crlfM a r (fun d hd => h d (List.mem_cons_of_mem _ hd))
    have hc := h c List.mem_cons_self
    rw [List.cons_append, Lib.index, ih]
    rw [if_neg (by
      intro hp
      rw [List.isPrefixOf] at hp
      have := (Bool.and_eq_true _ _ ▸ hp).1
      exact hc (beq_iff_eq.1 this).symm), if_neg (by rw [beq_iff_eq]; omega), List.length_cons]
    omega
theorem cut_crlfM (a r : List UInt8) (h : ∀ c ∈ a, c ≠ 13) : Lib.cut (a ++ 13 :: 10 :: r) [13, 10] = (a, r, true) := by
  unfold Lib.cut
  rw [index_crlfM a r h, if_pos (by omega)]
  simp only [Int.toNat_natCast, List.take_left, List.length_cons, List.length_nil]
  congr 2
  rw [show a.length + (0 + 1 + 1) = a.length + 2 from rfl, ← List.drop_drop, List.drop_left]
  rfl
theorem linesOf_consM (k : Nat) (s : ByteArray) (i : Nat) (a r : List UInt8) (hd : s.data.toList.drop i = a ++ 13 :: 10 :: r) (h : ∀ c ∈ a, c ≠ 13) :
    linesOf (k + 1) s i = (i, ⟨a.toArray⟩) :: (if a.isEmpty = true then [] else linesOf k s (i + a.length + 2)) := by
  rw [linesOf_succ, hd, cut_crlfM a r h, if_pos rfl]
def u8L (l : List Int) : List UInt8 := l.map fun n => UInt8.ofNat n.toNat
theorem fields_lines (s : ByteArray) : ∀ (ls : List (List Int)) (i k : Nat), (∀ l ∈ ls, l ≠ [] ∧ ∀ c ∈ l, (0 ≤ c ∧ c ≤ 255) ∧ c ≠ 13) → ls.length < k → s.data.toList.drop i = u8L (ls.flatMap (· ++ [13, 10]) ++ [13, 10]) → fieldsOf (linesOf k s i) = ls.map pfM
  | [], i, k, _, hk, hd => by
    obtain ⟨k, rfl⟩ : ∃ m, k = m + 1 := ⟨k - 1, by omega⟩
    rw [linesOf_consM k s i [] [] (by rw [hd]; rfl) (by simp)]
    rfl
  | l :: ls, i, k, hl, hk, hd => by
    simp only [List.length_cons] at hk
    obtain ⟨k, rfl⟩ : ∃ m, k = m + 1 := ⟨k - 1, by omega⟩
    obtain ⟨h0, hc⟩ := hl l List.mem_cons_self
    have hd2 : s.data.toList.drop i = u8L l ++ 13 :: 10 :: u8L (ls.flatMap (· ++ [13, 10]) ++ [13, 10]) := by
      rw [hd]
      unfold u8L
      simp
    have hne : (u8L l).isEmpty = false := by
      cases l with
      | nil => exact absurd rfl h0
      | cons a l => rfl
    have hlen : (u8L l).length = l.length := List.length_map ..
    rw [linesOf_consM k s i (u8L l) _ hd2 (fun c hcm => by
      obtain ⟨x, hx, rfl⟩ := List.mem_map.1 hcm
      exact u8_ne (hc x hx).1 (d := 13) (by omega) (hc x hx).2), hne, if_neg (by simp), fieldsOf]
    have hsz : ¬ (⟨(u8L l).toArray⟩ : ByteArray).size = 0 := by
      show ¬ (u8L l).length = 0
      rw [hlen]
      exact fun e => h0 (List.length_eq_zero_iff.1 e)
    rw [if_neg hsz, fields_lines s ls (i + (u8L l).length + 2) k (fun x hx => hl x (List.mem_cons_of_mem _ hx)) (by omega) (by
      rw [show i + (u8L l).length + 2 = i + ((u8L l).length + 2) by omega, ← List.drop_drop, hd2, ← List.drop_drop, List.drop_left]
      rfl)]
    rfl
theorem sectM_run (e0 e1 e2 : Nat) (s : List Int) (hb : ByteL s) (a : Nat) (ha : a ≤ s.length) (X : MSt Fld) (hp : X.place = 6) (hl : X.lines = 0) (hz : X.size = 0) (ht : X.text = []) (hf : X.fields = []) :
    match secM s e1 e2 a with
    | .error (a1, er) => er ≠ 0 ∧ ∃ st', mrun (envM e0 e1 e2) X (s.drop a) a = (st', a1, er) ∧ st'.data = X.data
    | .ok (l, a1) => ∃ st', mrun (envM e0 e1 e2) X (s.drop a) a = (st', a1, 0) ∧ st'.data = X.data ∧ st'.fields = l ∧ st'.place = 11 := by
  have hbr : ByteL (s.drop a) := fun x hx => hb x (List.mem_of_mem_drop hx)
  have hsc := scanP_I hbr ((strOfNums (s.drop a)).size + 1) 0 0 (Nat.zero_le _) (by rw [Go.strOfNums_size]; omega)
  rw [List.drop_zero] at hsc
  obtain ⟨r, hr⟩ : ∃ r, s.drop a = r := ⟨_, rfl⟩
  rw [hr] at hbr hsc ⊢
  have hshift : ∀ (l : List Int) (i j : Nat) (st : Int), scanI nxt (i + j) l st = ((scanI nxt i l st).1 + j, (scanI nxt i l st).2) := by
    intro l
    induction l with
    | nil => intro i j st; rfl
    | cons c l ih =>
      intro i j st
      rw [scanI, scanI]
      split
      · split
        · show (i + j + 1, (0 : Int)) = (i + 1 + j, 0)
          rw [show i + j + 1 = i + 1 + j by omega]
        · rw [show i + j + 1 = (i + 1) + j by omega]
          exact ih _ _ _
      · rfl
  obtain ⟨q, hq⟩ : ∃ q, scanI nxt 0 r 0 = q := ⟨_, rfl⟩
  obtain ⟨n, e⟩ := q
  rw [hq] at hsc
  have hge := scanI_ge (nx := nxt) r 0 0
  rw [hq] at hge
  dsimp only at hge
  have hsa : scanI nxt a r 0 = (n + a, e) := by
    have := hshift r 0 a 0
    rw [Nat.zero_add, hq] at this
    exact this
  obtain ⟨i1, i2, i3⟩ := sect_run (nextM e0 e1 e2) (r.length + 1) r a X (Nat.lt_succ_self _) hbr hp (by rw [hz]; exact Nat.zero_le _) ht (n + a) e hsa
  rw [show n + a - a = n by omega, hl, hz, beyM_L _ _ _ _ _ _ (by rw [List.length_take]; omega)] at i1 i2 i3
  have hR : (scanR (strOfNums r)).2.1 = (n : Int) ∧ (scanR (strOfNums r)).2.2 = e ∧ (e = 0 → (scanR (strOfNums r)).1 = fieldsOf (linesOf (n + 1) ((strOfNums r).extract 0 n) 0)) := by
    by_cases he : e = 0
    · subst he
      rw [scanR_good hsc (by rw [Go.strOfNums_size]; omega)]
      exact ⟨rfl, rfl, fun _ => rfl⟩
    · rw [scanR_bad hsc he]
      exact ⟨rfl, rfl, fun h => absurd h he⟩
  unfold secM secQ
  rw [hr, hR.1, hR.2.1, Int.toNat_natCast]
  obtain ⟨bv, hbv⟩ : ∃ bv, beyL e1 e2 (linesB (r.take n)) 0 0 = bv := ⟨_, rfl⟩
  have hE1 : (envM e0 e1 e2).e1 = e1 := rfl
  have hE2 : (envM e0 e1 e2).e2 = e2 := rfl
  rw [hE1, hE2, hbv] at i1 i2 i3
  rw [hbv]
  by_cases hb0 : 0 ≤ bv
  · rw [if_pos hb0]
    obtain ⟨_, st', h1, h2⟩ := i1 hb0
    exact ⟨by decide, st', by rw [h1, Nat.sub_zero], h2⟩
  · rw [if_neg hb0]
    by_cases he : e = 0
    · rw [if_pos he]
      obtain ⟨ls, st', j1, j2, j3, j4, j5, j6⟩ := i3 (by omega) he
      refine ⟨st', by rw [j3, Nat.add_comm], j4, ?_, j6⟩
      rw [j5, hf, List.nil_append, hR.2.2 he]
      refine (fields_lines _ ls 0 (n + 1) (fun l hl => ⟨(j2 l hl).1, fun c hc => ⟨?_, ((j2 l hl).2 c hc).1⟩⟩) ?_ ?_).symm
      · refine hbr c (List.mem_of_mem_take (i := n) ?_)
        rw [j1]
        exact List.mem_append_left _ (List.mem_flatMap.2 ⟨l, hl, List.mem_append_left _ hc⟩)
      · have h1 := congrArg List.length j1
        have h2 : ls.length ≤ (ls.flatMap (· ++ [13, 10])).length := by
          clear j1 j2 j5 h1
          induction ls with
          | nil => simp
          | cons l ls ih => simp only [List.flatMap_cons, List.length_append, List.length_cons, List.length_nil]; omega
        rw [List.length_take, List.length_append] at h1
        simp only [List.length_cons, List.length_nil] at h1
        omega
      · rw [List.drop_zero, extract_to, strOfNums_data]
        unfold u8L
        rw [← List.map_take, j1]
    · rw [if_neg he]
      obtain ⟨st', h1, h2⟩ := i2 (by omega) he
      exact ⟨he, st', by rw [h1, Nat.add_comm], h2⟩
theorem sizeL_er {s : List Int} : ∀ (f a n g : Nat) {a1 : Nat} {er : Int}, sizeL f s a n g = .error (a1, er) → er ≠ 0
  | 0, a, n, g, a1, er, h => by cases h; decide
  | f + 1, a, n, g, a1, er, h => by
    unfold sizeL at h
    split at h
    · split at h
      · split at h
        · cases h
        · cases h; decide
      · split at h
        · exact sizeL_er f _ _ _ h
        · cases h; decide
    · cases h; decide
theorem extL_er {s : List Int} {e0 : Int} : ∀ (f a n : Nat) {a1 : Nat} {er : Int}, extL f s e0 a n = .error (a1, er) → er ≠ 0
  | 0, a, n, a1, er, h => by cases h
  | f + 1, a, n, a1, er, h => by
    unfold extL at h
    split at h
    · split at h
      · split at h
        · exact extL_er f _ _ h
        · cases h; decide
      · cases h
    · cases h; decide
theorem extM_er {s : List Int} {e0 : Int} {a a1 : Nat} {er : Int} (h : extM s e0 a = .error (a1, er)) : er ≠ 0 := by
  unfold extM at h
  split at h
  · split at h
    · exact extL_er _ _ _ h
    · cases h
  · cases h; decide
theorem byteM_er {s : List Int} {c : Int} {a a1 : Nat} {er : Int} (h : byteM s c a = .error (a1, er)) : er ≠ 0 := by
  unfold byteM at h
  split at h
  · split at h
    · cases h
    · cases h; decide
  · cases h; decide
theorem endM_er {s : List Int} {a a1 : Nat} {er : Int} (h : endM s a = .error (a1, er)) : er ≠ 0 := by
  unfold endM at h
  split at h
  · exact byteM_er h
  · rename_i h1
    cases h
    exact byteM_er h1
theorem chunkM_er {s : List Int} {e0 : Int} {a a1 : Nat} {er : Int} (h : (chunkM s e0 a).1 = .error (a1, er)) : er ≠ 0 := by
  unfold chunkM at h
  split at h
  · rename_i h1
    cases h
    exact sizeL_er _ _ _ _ h1
  split at h
  · rename_i h1
    cases h
    exact extM_er h1
  split at h
  · rename_i h1
    cases h
    exact endM_er h1
  split at h
  · cases h
  split at h
  · unfold tailM at h
    split at h
    · rename_i h1
      cases h
      exact endM_er h1
    · cases h
  · cases h; decide
theorem chunksM_er {s : List Int} {e0 : Int} : ∀ (f a : Nat) (D : List Int) {a1 : Nat} {er : Int}, (chunksM f s e0 a D).1 = .error (a1, er) → er ≠ 0
  | 0, a, D, a1, er, h => by cases h; decide
  | f + 1, a, D, a1, er, h => by
    rw [chunksM] at h
    split at h
    · rename_i h1
      cases h
      exact chunkM_er (congrArg Prod.fst h1)
    · exact chunksM_er f _ _ h
    · cases h
theorem body_run (e0 e1 e2 : Nat) (s : List Int) (hb : ByteL s) :
    match bodyM s e0 e1 e2 with
    | (.error (a, er), D) => er ≠ 0 ∧ ∃ st', mrun (envM e0 e1 e2) minit s 0 = (st', a, er) ∧ st'.data = D
    | (.ok (l, a), D) => ∃ st', mrun (envM e0 e1 e2) minit s 0 = (st', a, 0) ∧ st'.data = D ∧ st'.fields = l ∧ st'.place = 11 := by
  have h := chunks_run (goodM e0 e1 e2) s (s.length + 1) 0 minit (by omega) (Nat.zero_le _) rfl rfl rfl (fun q x a1 hq hc => (chunkM_gt hb hq hc).1)
  rw [List.drop_zero] at h
  have hE0 : (envM e0 e1 e2).e0 = e0 := rfl
  have hD0 : (minit : MSt Fld).data = [] := rfl
  rw [hE0, hD0] at h
  unfold bodyM scannedM
  have her := fun a1 er => chunksM_er (s := s) (e0 := (e0 : Int)) (s.length + 1) 0 [] (a1 := a1) (er := er)
  generalize chunksM (s.length + 1) s (e0 : Int) 0 [] = q at *
  obtain ⟨m, D⟩ := q
  rcases m with ⟨a, er⟩ | ⟨u, a⟩
  · obtain ⟨st', h1, h2⟩ := h
    exact ⟨her a er rfl, st', h1, h2⟩
  · obtain ⟨ha, k, hr⟩ := h
    dsimp only
    have h2 := sectM_run e0 e1 e2 s hb a ha { (minit : MSt Fld) with place := 6, count := k, data := D } rfl rfl rfl rfl rfl
    cases hm : secM s e1 e2 a with
    | error x =>
      obtain ⟨a1, er⟩ := x
      rw [hm] at h2
      obtain ⟨h0, st', h3, h4⟩ := h2
      exact ⟨h0, st', hr.trans h3, h4⟩
    | ok x =>
      obtain ⟨l, a1⟩ := x
      rw [hm] at h2
      obtain ⟨st', h3, h4, h5, h6⟩ := h2
      exact ⟨st', hr.trans h3, h4, h5, h6⟩
end Go.Proofs.YtmmbpbgcobmifaaDoorH
end
section
namespace Go.Proofs.YtmmbpbgcobmifaaDoor.Pr
end Go.Proofs.YtmmbpbgcobmifaaDoor.Pr
namespace Go.Proofs.YtmmbpbgcobmifaaDoorH
open Go.RowKit Go.Proofs.YtmmbpbgcobmifaaDoorW.PrintWords Go.Proofs.YtmmbpbgcobmifaaDoorW.PrintLast Go.Proofs.YtmmbpbgcobmifaaDoorW.PrintMore Go.Proofs.YtmmbpbgcobmifaaDoor.Pr Go.Proofs.YtmmbpbgcobmifaaDoorM
def toldB (r : MSt Fld × Nat × Int) : List Int × List Fld × Int × Int × Int := if r.2.2 = 0 then (r.1.data, r.1.fields, (r.2.1 : Int), (r.2.1 : Int), 0) else ([], [], 0, (r.2.1 : Int), r.2.2)
def runB (e0 e1 e2 : Nat) (s : List Int) : MSt Fld × Nat × Int := mrun (envM e0 e1 e2) minit s 0
theorem scanT_run (e0 e1 e2 : Nat) (s : List Int) (hb : ByteL s) : scanT s e0 e1 e2 = toldB (runB e0 e1 e2 s) ∧ (bodyM s e0 e1 e2).2 = (runB e0 e1 e2 s).1.data := by
  have h := body_run e0 e1 e2 s hb
  unfold scanT runB
  generalize bodyM s e0 e1 e2 = q at *
  obtain ⟨m, D⟩ := q
  rcases m with ⟨a, er⟩ | ⟨l, a⟩
  · obtain ⟨h0, st', h1, h2⟩ := h
    rw [h1]
    unfold toldB
    rw [if_neg h0]
    exact ⟨rfl, h2.symm⟩
  · obtain ⟨st', h1, h2, h3, h4⟩ := h
    rw [h1]
    unfold toldB
    rw [if_pos rfl]
    dsimp only
    rw [h2, h3]
    exact ⟨rfl, rfl⟩
theorem toldB_ok {r : MSt Fld × Nat × Int} (h : r.2.2 = 0) : toldB r = (r.1.data, r.1.fields, (r.2.1 : Int), (r.2.1 : Int), 0) := by unfold toldB; rw [if_pos h]
theorem toldB_err {r : MSt Fld × Nat × Int} (h : r.2.2 ≠ 0) : toldB r = ([], [], 0, (r.2.1 : Int), r.2.2) := by unfold toldB; rw [if_neg h]
theorem scanF_eq (e0 e1 e2 : Nat) (s : List Int) (hb : ByteL s) (hl : s.length ≤ 1073741824) (h0 : e0 ≤ 65536) (h1 : e1 ≤ 65536) (h2 : e2 ≤ 65536) : body_Scan.f s (e0 : Int) (e1 : Int) (e2 : Int) = some (toldB (runB e0 e1 e2 s)) := by
  unfold body_Scan.f
  rw [if_pos ⟨hl, byteB_iff.2 hb⟩, if_pos (by unfold rightL; simp only [Bool.and_eq_true, decide_eq_true_eq]; omega)]
  simp only [Int.toNat_natCast]
  rw [(scanT_run e0 e1 e2 s hb).1]
theorem payF_eq (e0 e1 e2 : Nat) (s : List Int) (hb : ByteL s) (hl : s.length ≤ 1073741824) (h0 : e0 ≤ 65536) (h1 : e1 ≤ 65536) (h2 : e2 ≤ 65536) : body_Payload.f s (e0 : Int) (e1 : Int) (e2 : Int) = some (runB e0 e1 e2 s).1.data := by
  unfold body_Payload.f
  rw [if_pos ⟨hl, byteB_iff.2 hb⟩, if_pos (by unfold rightL; simp only [Bool.and_eq_true, decide_eq_true_eq]; omega)]
  simp only [Int.toNat_natCast]
  rw [(scanT_run e0 e1 e2 s hb).2]
end Go.Proofs.YtmmbpbgcobmifaaDoorH
end
section
namespace Go.Proofs.YtmmbpbgcobmifaaDoor.Pr
open Go.RowKit Go.Proofs.YtmmbpbgcobmifaaDoorH Go.Proofs.YtmmbpbgcobmifaaDoorW.PrintWords Go.Proofs.YtmmbpbgcobmifaaDoorW.PrintLast Go.Proofs.YtmmbpbgcobmifaaDoorW.PrintMore
attribute [local go_sem] max2_int min2_int max_two min_two max_three min_three max_four min_four   -- for this text's walks alone
set_option linter.unusedVariables false
set_option linter.unusedSimpArgs false
def catchpitref03_Same.l0 : Nat → List Int → List Int → Int → Option (Bool)
  | 0, _, _, _ => none
  | k + 1, x0, x1, x5 => if x5 < (x0.length : Int) then (if 0 ≤ x5 then (if x5 < (x1.length : Int) then (if (rd x0 x5) = (rd x1 x5) then (catchpitref03_Same.l0 k x0 x1 (wrap64 (x5 + 1))) else (some false)) else (none)) else (none)) else (some true)
def catchpitref03_Same.f (k : Nat) (l0 : List Int) (l1 : List Int) : Option (Bool) := if (l0.length : Int) = (l1.length : Int) then (catchpitref03_Same.l0 k l0 l1 0) else (some false)
theorem catchpitref03_Same.mono_l : ∀ k, (∀ y0 y1 y2, LeO (catchpitref03_Same.l0 k y0 y1 y2) (catchpitref03_Same.l0 (k + 1) y0 y1 y2))
  | 0 => fun _ _ _ r h => by simp [catchpitref03_Same.l0] at h
  | k + 1 => by
    have ih0 := catchpitref03_Same.mono_l k
    · intro y0 y1 y2
      unfold catchpitref03_Same.l0
      repeat' first
      | (with_reducible exact ih0 _ _ _)
      | (with_reducible exact LeO.refl _)
      | (with_reducible exact LeO.none _)
      | (with_reducible refine LeO.ite ?_ ?_)
      | (with_reducible refine LeO.bind ?_ (fun _ => ?_))
      | exact ih0 _ _ _
      | exact LeO.none _
      | refine LeO.ite ?_ ?_
      | refine LeO.bind ?_ (fun _ => ?_)
theorem catchpitref03_Same.mono : ∀ a0 a1 k, LeO (catchpitref03_Same.f k a0 a1) (catchpitref03_Same.f (k + 1) a0 a1) := by
  intro a0 a1 k
  have ih0 := catchpitref03_Same.mono_l k
  unfold catchpitref03_Same.f
  repeat' first
      | (with_reducible exact ih0 _ _ _)
      | (with_reducible exact LeO.refl _)
      | (with_reducible exact LeO.none _)
      | (with_reducible refine LeO.ite ?_ ?_)
      | (with_reducible refine LeO.bind ?_ (fun _ => ?_))
      | exact ih0 _ _ _
      | exact LeO.none _
      | refine LeO.ite ?_ ?_
      | refine LeO.bind ?_ (fun _ => ?_)
set_option maxHeartbeats 8000000 in
set_option maxRecDepth 100000 in
theorem catchpitref03_Same.calls (k : Nat) (A0 : Option Addr) (c0 : Nat) (l0 : List Int) (A1 : Option Addr) (c1 : Nat) (l1 : List Int) (r : Bool) (w : World) (hr0 : Kd.C (Kd.int .u8) w A0 l0.length l0) (hc0 : l0.length ≤ c0) (hr1 : Kd.C (Kd.int .u8) w A1 l1.length l1) (hc1 : l1.length ≤ c1) (hG : TabOk w) (h : catchpitref03_Same.f k l0 l1 = some r) :
    Calls Tryd.prog 41 #[.slice A0 l0.length c0, .slice A1 l1.length c1] w fun e w' => e = .returned (.bool r) ∧ Drawn0 w w' := by
  have HR0 := Aside0.mk hr0
  have HC0 := Aside0.mk hc0
  clear hr0 hc0
  have HR1 := Aside0.mk hr1
  have HC1 := Aside0.mk hc1
  clear hr1 hc1
  have H : (if (l0.length : Int) = (l1.length : Int) then (catchpitref03_Same.l0 k l0 l1 0) else (some false)) = some r := h
  clear h
  by_cases c3 : (l0.length : Int) = (l1.length : Int)
  · rw [if_pos c3] at H
    have c3b0 : ((l0.length : Int) == (l1.length : Int)) = true := beq_iff_eq.mpr c3
    have c3b1 : ((l0.length : Int) != (l1.length : Int)) = false := bne_eq_false_iff_eq.mpr c3
    have c3b2 : (l0.length == l1.length) = true := by first | simpa using c3 | (simp at c3 ⊢; omega)
    clear c3
    have H' := Aside0.mk H
    clear H
    go_enter Tryd.func41, Tryd.ntmps41
    go_wp2
    repeat (go_quiet (fail); try go_wp2)
    go_loopg [5] k (fun kq v5 w' => ∃ (x5_1 : Int), v5 = .int .i64 x5_1 ∧ Aside0 (catchpitref03_Same.l0 kq l0 l1 x5_1 = some r) ∧ Aside0 (kq ≤ k) ∧ Drawn0 w w')
    case atStart => exact ⟨(0), (by first | rfl | (simp; done) | (simp [*]; done)), H', ⟨Nat.le_refl _⟩, by repeat (first | exact Drawn0.refl _ | apply Drawn0.step)⟩
    case round =>
      clear H'
      try clear c1
      try clear p2
      try clear c3
      try clear c3b0
      try clear c3b1
      try clear c3b2
      obtain ⟨x5_1, rfl, HA, HK1, ⟨m1, rfl⟩⟩ := hrel
      cases gk with
      | zero => exact absurd HA.out (by simp [catchpitref03_Same.l0])
      | succ k1 =>
        have H := HA.out
        clear HA
        simp only [catchpitref03_Same.l0] at H
        by_cases c4 : x5_1 < (l0.length : Int)
        · rw [if_pos c4] at H
          have c4b0 : decide (x5_1 < (l0.length : Int)) = true := decide_eq_true c4
          clear c4
          by_cases c5 : 0 ≤ x5_1
          · rw [if_pos c5] at H
            have c5b0 : decide (0 ≤ x5_1) = true := decide_eq_true c5
            clear c5
            by_cases c6 : x5_1 < (l1.length : Int)
            · rw [if_pos c6] at H
              have c6b0 : decide (x5_1 < (l1.length : Int)) = true := decide_eq_true c6
              clear c6
              by_cases c7 : (rd l0 x5_1) = (rd l1 x5_1)
              · rw [if_pos c7] at H
                have c7b0 : ((rd l0 x5_1) == (rd l1 x5_1)) = true := beq_iff_eq.mpr c7
                have c7b1 : ((rd l0 x5_1) != (rd l1 x5_1)) = false := bne_eq_false_iff_eq.mpr c7
                clear c7
                have H' := Aside0.mk H
                clear H
                have p151 : 0 ≤ (x5_1 : Int) := of_decide_eq_true (by first | (with_reducible assumption) | assumption)
                have q151 : x5_1 < (l0.length : Int) := of_decide_eq_true (by first | (with_reducible assumption) | assumption)
                obtain ⟨ad151, e151, hx151_0⟩ := Kd.at_int HR0.out x5_1 p151 q151
                cases e151
                replace p151 := eq_true p151
                replace q151 := eq_true q151
                have p152 : 0 ≤ (x5_1 : Int) := of_decide_eq_true (by first | (with_reducible assumption) | assumption)
                have q152 : x5_1 < (l1.length : Int) := of_decide_eq_true (by first | (with_reducible assumption) | assumption)
                obtain ⟨ad152, e152, hx152_0⟩ := Kd.at_int HR1.out x5_1 p152 q152
                cases e152
                replace p152 := eq_true p152
                replace q152 := eq_true q152
                go_wp2
                repeat (go_quiet (fail); try go_wp2)
                go_roundg k1
                case measure => have := HK1.out; omega
                case rel => exact ⟨(wrap64 (x5_1 + 1)), (by first | rfl | (simp; done) | (simp [*]; done)), H', ⟨by have := HK1.out; omega⟩, by repeat (first | exact Drawn0.refl _ | apply Drawn0.step)⟩
              · rw [if_neg c7] at H
                have c7b0 : ((rd l0 x5_1) == (rd l1 x5_1)) = false := beq_eq_false_iff_ne.mpr c7
                have c7b1 : ((rd l0 x5_1) != (rd l1 x5_1)) = true := bne_iff_ne.mpr c7
                obtain rfl := Option.some.inj H
                have p151 : 0 ≤ (x5_1 : Int) := of_decide_eq_true (by first | (with_reducible assumption) | assumption)
                have q151 : x5_1 < (l0.length : Int) := of_decide_eq_true (by first | (with_reducible assumption) | assumption)
                obtain ⟨ad151, e151, hx151_0⟩ := Kd.at_int HR0.out x5_1 p151 q151
                cases e151
                replace p151 := eq_true p151
                replace q151 := eq_true q151
                have p152 : 0 ≤ (x5_1 : Int) := of_decide_eq_true (by first | (with_reducible assumption) | assumption)
                have q152 : x5_1 < (l1.length : Int) := of_decide_eq_true (by first | (with_reducible assumption) | assumption)
                obtain ⟨ad152, e152, hx152_0⟩ := Kd.at_int HR1.out x5_1 p152 q152
                cases e152
                replace p152 := eq_true p152
                replace q152 := eq_true q152
                go_wp2
                repeat (go_quiet (fail); try go_wp2)
                go_ret
                exact ⟨by first | rfl | (simp; done) | (simp [*]; done), by repeat (first | exact Drawn0.refl _ | apply Drawn0.step)⟩
            · rw [if_neg c6] at H
              exact absurd H (by simp)
          · rw [if_neg c5] at H
            exact absurd H (by simp)
        · rw [if_neg c4] at H
          have c4b0 : decide (x5_1 < (l0.length : Int)) = false := decide_eq_false c4
          clear c4
          obtain rfl := Option.some.inj H
          go_wp2
          repeat (go_quiet (fail); try go_wp2)
          go_ret
          exact ⟨by first | rfl | (simp; done) | (simp [*]; done), by repeat (first | exact Drawn0.refl _ | apply Drawn0.step)⟩
  · rw [if_neg c3] at H
    have c3b0 : ((l0.length : Int) == (l1.length : Int)) = false := beq_eq_false_iff_ne.mpr c3
    have c3b1 : ((l0.length : Int) != (l1.length : Int)) = true := bne_iff_ne.mpr c3
    have c3b2 : (l0.length == l1.length) = false := by first | simpa using c3 | (simp at c3 ⊢; omega)
    obtain rfl := Option.some.inj H
    go_enter Tryd.func41, Tryd.ntmps41
    go_wp2
    repeat (go_quiet (fail); try go_wp2)
    go_ret
    exact ⟨by first | rfl | (simp; done) | (simp [*]; done), by repeat (first | exact Drawn0.refl _ | apply Drawn0.step)⟩
end Go.Proofs.YtmmbpbgcobmifaaDoor.Pr
end
section
namespace Go.Proofs.YtmmbpbgcobmifaaDoor.Pr
open Go.RowKit Go.Proofs.YtmmbpbgcobmifaaDoorH Go.Proofs.YtmmbpbgcobmifaaDoorW.PrintWords Go.Proofs.YtmmbpbgcobmifaaDoorW.PrintLast Go.Proofs.YtmmbpbgcobmifaaDoorW.PrintMore
attribute [local go_sem] max2_int min2_int max_two min_two max_three min_three max_four min_four   -- for this text's walks alone
set_option linter.unusedVariables false
set_option linter.unusedSimpArgs false
theorem eqA53 (d : Nat) (w : World) (x0 y0 : ByteArray) (x1 y1 : ByteArray) :
    (Op.equalIn (d + 2) 53 (.agg #[.string x0, .string x1]) (.agg #[.string y0, .string y1])).run Tryd.prog w = .ok (x0.toList == y0.toList && (x1.toList == y1.toList)) w := by
  refine eqA_of Tryd.underlying53 (by kernel_rfl) ?_
  refine eqf_cons (by rfl) (by go_simp; rfl) (by go_simp; rfl) (by go_simp) ?_
  exact eqf_last (by rfl) (by go_simp; rfl) (by go_simp; rfl) (by go_simp)
end Go.Proofs.YtmmbpbgcobmifaaDoor.Pr
end
section
namespace Go.Proofs.YtmmbpbgcobmifaaDoor.Pr
open Go.RowKit Go.Proofs.YtmmbpbgcobmifaaDoorH Go.Proofs.YtmmbpbgcobmifaaDoorW.PrintWords Go.Proofs.YtmmbpbgcobmifaaDoorW.PrintLast Go.Proofs.YtmmbpbgcobmifaaDoorW.PrintMore
attribute [local go_sem] max2_int min2_int max_two min_two max_three min_three max_four min_four   -- for this text's walks alone
set_option linter.unusedVariables false
set_option linter.unusedSimpArgs false
attribute [local go_sem high] eqA53
def catchpitref05_Fields.l0 : Nat → List (S53) → List (S53) → Int → Option (Bool)
  | 0, _, _, _ => none
  | k + 1, x0, x1, x5 => if x5 < (x0.length : Int) then (if 0 ≤ x5 then (if x5 < (x1.length : Int) then (if (!((((rd_T53 x0 x5).f0).toList) == (((rd_T53 x1 x5).f0).toList)) || (!((((rd_T53 x0 x5).f1).toList) == (((rd_T53 x1 x5).f1).toList)))) = true then (some false) else (catchpitref05_Fields.l0 k x0 x1 (wrap64 (x5 + 1)))) else (none)) else (none)) else (some true)
def catchpitref05_Fields.f (k : Nat) (l0 : List (S53)) (l1 : List (S53)) : Option (Bool) := if (l0.length : Int) = (l1.length : Int) then (catchpitref05_Fields.l0 k l0 l1 0) else (some false)
theorem catchpitref05_Fields.mono_l : ∀ k, (∀ y0 y1 y2, LeO (catchpitref05_Fields.l0 k y0 y1 y2) (catchpitref05_Fields.l0 (k + 1) y0 y1 y2))
  | 0 => fun _ _ _ r h => by simp [catchpitref05_Fields.l0] at h
  | k + 1 => by
    have ih0 := catchpitref05_Fields.mono_l k
    · intro y0 y1 y2
      unfold catchpitref05_Fields.l0
      repeat' first
      | (with_reducible exact ih0 _ _ _)
      | (with_reducible exact LeO.refl _)
      | (with_reducible exact LeO.none _)
      | (with_reducible refine LeO.ite ?_ ?_)
      | (with_reducible refine LeO.bind ?_ (fun _ => ?_))
      | exact ih0 _ _ _
      | exact LeO.none _
      | refine LeO.ite ?_ ?_
      | refine LeO.bind ?_ (fun _ => ?_)
theorem catchpitref05_Fields.mono : ∀ a0 a1 k, LeO (catchpitref05_Fields.f k a0 a1) (catchpitref05_Fields.f (k + 1) a0 a1) := by
  intro a0 a1 k
  have ih0 := catchpitref05_Fields.mono_l k
  unfold catchpitref05_Fields.f
  repeat' first
      | (with_reducible exact ih0 _ _ _)
      | (with_reducible exact LeO.refl _)
      | (with_reducible exact LeO.none _)
      | (with_reducible refine LeO.ite ?_ ?_)
      | (with_reducible refine LeO.bind ?_ (fun _ => ?_))
      | exact ih0 _ _ _
      | exact LeO.none _
      | refine LeO.ite ?_ ?_
      | refine LeO.bind ?_ (fun _ => ?_)
set_option maxHeartbeats 8000000 in
set_option maxRecDepth 100000 in
theorem catchpitref05_Fields.calls (k : Nat) (A0 : Option Addr) (c0 : Nat) (l0 : List (S53)) (A1 : Option Addr) (c1 : Nat) (l1 : List (S53)) (r : Bool) (w : World) (hr0 : Kd.C k53 w A0 l0.length l0) (hc0 : l0.length ≤ c0) (hr1 : Kd.C k53 w A1 l1.length l1) (hc1 : l1.length ≤ c1) (hG : TabOk w) (h : catchpitref05_Fields.f k l0 l1 = some r) :
    Calls Tryd.prog 24 #[.slice A0 l0.length c0, .slice A1 l1.length c1] w fun e w' => e = .returned (.bool r) ∧ Drawn0 w w' := by
  have hu53 := Tryd.underlying53
  have HR0 := Aside0.mk hr0
  have HC0 := Aside0.mk hc0
  clear hr0 hc0
  have HR1 := Aside0.mk hr1
  have HC1 := Aside0.mk hc1
  clear hr1 hc1
  have H : (if (l0.length : Int) = (l1.length : Int) then (catchpitref05_Fields.l0 k l0 l1 0) else (some false)) = some r := h
  clear h
  by_cases c3 : (l0.length : Int) = (l1.length : Int)
  · rw [if_pos c3] at H
    have c3b0 : ((l0.length : Int) == (l1.length : Int)) = true := beq_iff_eq.mpr c3
    have c3b1 : ((l0.length : Int) != (l1.length : Int)) = false := bne_eq_false_iff_eq.mpr c3
    have c3b2 : (l0.length == l1.length) = true := by first | simpa using c3 | (simp at c3 ⊢; omega)
    clear c3
    have H' := Aside0.mk H
    clear H
    go_enter Tryd.func24, Tryd.ntmps24
    go_wp2
    repeat (go_quiet (fail); try go_wp2)
    go_loopg [5] k (fun kq v5 w' => ∃ (x5_1 : Int), v5 = .int .i64 x5_1 ∧ Aside0 (catchpitref05_Fields.l0 kq l0 l1 x5_1 = some r) ∧ Aside0 (kq ≤ k) ∧ Drawn0 w w')
    case atStart => exact ⟨(0), (by first | rfl | (simp; done) | (simp [*]; done)), H', ⟨Nat.le_refl _⟩, by repeat (first | exact Drawn0.refl _ | apply Drawn0.step)⟩
    case round =>
      clear H'
      try clear c1
      try clear c2
      try clear p2
      try clear c3
      try clear c3b0
      try clear c3b1
      try clear c3b2
      obtain ⟨x5_1, rfl, HA, HK1, ⟨m1, rfl⟩⟩ := hrel
      cases gk with
      | zero => exact absurd HA.out (by simp [catchpitref05_Fields.l0])
      | succ k1 =>
        have H := HA.out
        clear HA
        simp only [catchpitref05_Fields.l0] at H
        by_cases c4 : x5_1 < (l0.length : Int)
        · rw [if_pos c4] at H
          have c4b0 : decide (x5_1 < (l0.length : Int)) = true := decide_eq_true c4
          clear c4
          by_cases c5 : 0 ≤ x5_1
          · rw [if_pos c5] at H
            have c5b0 : decide (0 ≤ x5_1) = true := decide_eq_true c5
            clear c5
            by_cases c6 : x5_1 < (l1.length : Int)
            · rw [if_pos c6] at H
              have c6b0 : decide (x5_1 < (l1.length : Int)) = true := decide_eq_true c6
              clear c6
              by_cases c7 : (!((((rd_T53 l0 x5_1).f0).toList) == (((rd_T53 l1 x5_1).f0).toList)) || (!((((rd_T53 l0 x5_1).f1).toList) == (((rd_T53 l1 x5_1).f1).toList)))) = true
              · rw [if_pos c7] at H
                have c7b0 : (!((((rd_T53 l0 x5_1).f0).toList) == (((rd_T53 l1 x5_1).f0).toList)) || (!((((rd_T53 l0 x5_1).f1).toList) == (((rd_T53 l1 x5_1).f1).toList)))) = true := c7
                clear c7
                obtain rfl := Option.some.inj H
                have p154 : 0 ≤ (x5_1 : Int) := of_decide_eq_true (by first | (with_reducible assumption) | assumption)
                have q154 : x5_1 < (l0.length : Int) := of_decide_eq_true (by first | (with_reducible assumption) | assumption)
                obtain ⟨ad154, e154, hx154_0, hx154_1⟩ := at_T53 HR0.out x5_1 p154 q154
                cases e154
                replace p154 := eq_true p154
                replace q154 := eq_true q154
                have p155 : 0 ≤ (x5_1 : Int) := of_decide_eq_true (by first | (with_reducible assumption) | assumption)
                have q155 : x5_1 < (l1.length : Int) := of_decide_eq_true (by first | (with_reducible assumption) | assumption)
                obtain ⟨ad155, e155, hx155_0, hx155_1⟩ := at_T53 HR1.out x5_1 p155 q155
                cases e155
                replace p155 := eq_true p155
                replace q155 := eq_true q155
                go_wp2
                repeat (go_quiet (fail); try go_wp2)
                go_ret
                exact ⟨by first | rfl | (simp; done) | (simp [*]; done), by repeat (first | exact Drawn0.refl _ | apply Drawn0.step)⟩
              · rw [if_neg c7] at H
                have c7b0 : (!((((rd_T53 l0 x5_1).f0).toList) == (((rd_T53 l1 x5_1).f0).toList)) || (!((((rd_T53 l0 x5_1).f1).toList) == (((rd_T53 l1 x5_1).f1).toList)))) = false := by simpa using c7
                clear c7
                have H' := Aside0.mk H
                clear H
                have p154 : 0 ≤ (x5_1 : Int) := of_decide_eq_true (by first | (with_reducible assumption) | assumption)
                have q154 : x5_1 < (l0.length : Int) := of_decide_eq_true (by first | (with_reducible assumption) | assumption)
                obtain ⟨ad154, e154, hx154_0, hx154_1⟩ := at_T53 HR0.out x5_1 p154 q154
                cases e154
                replace p154 := eq_true p154
                replace q154 := eq_true q154
                have p155 : 0 ≤ (x5_1 : Int) := of_decide_eq_true (by first | (with_reducible assumption) | assumption)
                have q155 : x5_1 < (l1.length : Int) := of_decide_eq_true (by first | (with_reducible assumption) | assumption)
                obtain ⟨ad155, e155, hx155_0, hx155_1⟩ := at_T53 HR1.out x5_1 p155 q155
                cases e155
                replace p155 := eq_true p155
                replace q155 := eq_true q155
                go_wp2
                repeat (go_quiet (fail); try go_wp2)
                go_roundg k1
                case measure => have := HK1.out; omega
                case rel => exact ⟨(wrap64 (x5_1 + 1)), (by first | rfl | (simp; done) | (simp [*]; done)), H', ⟨by have := HK1.out; omega⟩, by repeat (first | exact Drawn0.refl _ | apply Drawn0.step)⟩
            · rw [if_neg c6] at H
              exact absurd H (by simp)
          · rw [if_neg c5] at H
            exact absurd H (by simp)
        · rw [if_neg c4] at H
          have c4b0 : decide (x5_1 < (l0.length : Int)) = false := decide_eq_false c4
          clear c4
          obtain rfl := Option.some.inj H
          go_wp2
          repeat (go_quiet (fail); try go_wp2)
          go_ret
          exact ⟨by first | rfl | (simp; done) | (simp [*]; done), by repeat (first | exact Drawn0.refl _ | apply Drawn0.step)⟩
  · rw [if_neg c3] at H
    have c3b0 : ((l0.length : Int) == (l1.length : Int)) = false := beq_eq_false_iff_ne.mpr c3
    have c3b1 : ((l0.length : Int) != (l1.length : Int)) = true := bne_iff_ne.mpr c3
    have c3b2 : (l0.length == l1.length) = false := by first | simpa using c3 | (simp at c3 ⊢; omega)
    obtain rfl := Option.some.inj H
    go_enter Tryd.func24, Tryd.ntmps24
    go_wp2
    repeat (go_quiet (fail); try go_wp2)
    go_ret
    exact ⟨by first | rfl | (simp; done) | (simp [*]; done), by repeat (first | exact Drawn0.refl _ | apply Drawn0.step)⟩
end Go.Proofs.YtmmbpbgcobmifaaDoor.Pr
end
section
namespace Go.Proofs.YtmmbpbgcobmifaaDoor.Pr
open Go.RowKit Go.Proofs.YtmmbpbgcobmifaaDoorH Go.Proofs.YtmmbpbgcobmifaaDoorW.PrintWords Go.Proofs.YtmmbpbgcobmifaaDoorW.PrintLast Go.Proofs.YtmmbpbgcobmifaaDoorW.PrintMore
attribute [local go_sem] max2_int min2_int max_two min_two max_three min_three max_four min_four   -- for this text's walks alone
set_option linter.unusedVariables false
set_option linter.unusedSimpArgs false
def catchpitref08_Same.f (k : Nat) (l0 : List Int) (l1 : List Int) : Option (Bool) := (catchpitref03_Same.f k l0 l1).bind fun t153 => (some t153)
theorem catchpitref08_Same.mono : ∀ a0 a1 k, LeO (catchpitref08_Same.f k a0 a1) (catchpitref08_Same.f (k + 1) a0 a1) := by
  intro a0 a1 k
  unfold catchpitref08_Same.f
  repeat' first
      | (with_reducible exact catchpitref03_Same.mono _ _ _)
      | (with_reducible exact LeO.refl _)
      | (with_reducible exact LeO.none _)
      | (with_reducible refine LeO.ite ?_ ?_)
      | (with_reducible refine LeO.bind ?_ (fun _ => ?_))
      | exact catchpitref03_Same.mono _ _ _
      | exact LeO.none _
      | refine LeO.ite ?_ ?_
      | refine LeO.bind ?_ (fun _ => ?_)
set_option maxHeartbeats 8000000 in
set_option maxRecDepth 100000 in
theorem catchpitref08_Same.calls (k : Nat) (A0 : Option Addr) (c0 : Nat) (l0 : List Int) (A1 : Option Addr) (c1 : Nat) (l1 : List Int) (r : Bool) (w : World) (hr0 : Kd.C (Kd.int .u8) w A0 l0.length l0) (hc0 : l0.length ≤ c0) (hr1 : Kd.C (Kd.int .u8) w A1 l1.length l1) (hc1 : l1.length ≤ c1) (hG : TabOk w) (h : catchpitref08_Same.f k l0 l1 = some r) :
    Calls Tryd.prog 22 #[.slice A0 l0.length c0, .slice A1 l1.length c1] w fun e w' => e = .returned (.bool r) ∧ Drawn0 w w' := by
  have HR0 := Aside0.mk hr0
  have HC0 := Aside0.mk hc0
  clear hr0 hc0
  have HR1 := Aside0.mk hr1
  have HC1 := Aside0.mk hc1
  clear hr1 hc1
  have H : ((catchpitref03_Same.f k l0 l1).bind fun t153 => (some t153)) = some r := h
  clear h
  replace H := Option.bind_eq_some_iff.mp H
  obtain ⟨t153, A30, H⟩ := H
  replace H : (some t153) = some r := H
  have A3 := Aside0.mk A30
  clear A30
  obtain rfl := Option.some.inj H
  go_enter Tryd.func22, Tryd.ntmps22
  go_wp2_with (first | ((with_reducible refine gate_callee (f := 41) rfl ?_); refine goesL_ (some 7) rfl rfl Tryd.func41 (by kernel_rfl) rfl #[.slice A0 l0.length c0, .slice A1 l1.length c1] rfl (by (try simp only [List.map_toArray, List.map_cons, List.map_nil]); first | done | rfl | (simp only [List.length_drop, List.length_take]; rfl)) ?_; (with_reducible refine (catchpitref03_Same.calls k _ _ l0 _ _ l1 t153 _ ?side1 ?side2 ?side3 ?side4 ?side5 A3.out).mono ?_); (case side1 => repeat (first | exact HR0.out | (with_reducible refine Kd.C_alloc ?_ _) | (with_reducible refine Kd.C_drewN ?_ _) | (with_reducible refine Kd.C_drew ?_))); (case side2 => exact HC0.out); (case side3 => repeat (first | exact HR1.out | (with_reducible refine Kd.C_alloc ?_ _) | (with_reducible refine Kd.C_drewN ?_ _) | (with_reducible refine Kd.C_drew ?_))); (case side4 => exact HC1.out); (case side5 => first | exact hG | exact TabOk.drewN hG _ | exact TabOk.drewN (TabOk.drewN hG _) _ | exact TabOk.below hG (by repeat (first | (with_reducible first | exact HB.out | apply below_alloc | apply pw_below_drewN | apply below_drew1) | exact HB.out))); rintro e w' ⟨rfl, ⟨nd, rfl⟩⟩; refine ⟨_, rfl, ?_⟩))
  go_ret
  exact ⟨by first | rfl | (simp; done) | (simp [*]; done), by repeat (first | exact Drawn0.refl _ | apply Drawn0.step)⟩
end Go.Proofs.YtmmbpbgcobmifaaDoor.Pr
end
