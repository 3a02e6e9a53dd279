import Derived.Test.YtdkecmjoenfjdaaDoorZBlockScansP2
import Derived.Test.YtdkecmjoenfjdaaDoorZBlockScansP3
import Derived.Test.YtdkecmjoenfjdaaDoorZBlockScansP1
import Derived.RangeFuncFrom
import Derived.RangeFuncWrites
import Derived.RangeFuncBox
import Derived.Maps.AppendAt
section
namespace Go.Proofs.YtdkecmjoenfjdaaDoorH
open Go.RowKit Go.Shelf Go.Proofs.YtdkecmjoenfjdaaDoorW.PrintWords Go.Proofs.YtdkecmjoenfjdaaDoorW.PrintLast Go.Proofs.YtdkecmjoenfjdaaDoorW.PrintMore Go.Proofs.YtdkecmjoenfjdaaDoor.Pr
attribute [local go_sem] Oper.semAt_some
def nxt (st c : Int) : Int × Bool := (block_next.f st c).getD (5, false)
theorem one_size (c : Int) : (strOfNums ([c] : List Int)).size = 1 := rfl
theorem nxt_eq (st c : Int) : block_next.f st c = some (nxt st c) := by
  have h1 : octet_Token.f (strOfNums ([c] : List Int)) = some (tokB (strOfNums ([c] : List Int))) := by
    unfold octet_Token.f
    rw [if_pos (by rw [one_size]; omega)]
  have h2 : octet_Text.f (strOfNums ([c] : List Int)) = some (allB textI (strOfNums ([c] : List Int))) := by
    unfold octet_Text.f
    rw [if_pos (by rw [one_size]; omega)]
  unfold nxt block_next.f
  simp only [Option.bind_some, h1, h2]
  repeat' split
  all_goals rfl
theorem bt_get (s : ByteArray) (i : Nat) (h : i < s.size) : bt s (i : Int) = ((s[i]'h).toNat : Int) := by
  rw [bt_nat s i h, List.getD_eq_getElem?_getD, List.getElem?_eq_getElem (by rw [← size_eq_length]; exact h)]
  rfl
def scanP : Nat → ByteArray → Nat → Int → Nat × Int
  | 0, _, i, _ => (i, 4)
  | k + 1, s, i, st => if i < s.size then (if (nxt st (bt s i)).2 = true then (if (nxt st (bt s i)).1 = 5 then (i + 1, 0) else scanP k s (i + 1) (nxt st (bt s i)).1) else (i, 2)) else (i, 4)
theorem scanP_end (k : Nat) (s : ByteArray) (st : Int) : scanP k s s.size st = (s.size, 4) := by
  cases k with
  | zero => rfl
  | succ k => rw [scanP, if_neg (Nat.lt_irrefl _)]
theorem scanP_bad (k : Nat) (s : ByteArray) (i : Nat) (st nx : Int) (hi : i < s.size) (h : nxt st (bt s i) = (nx, false)) : scanP (k + 1) s i st = (i, 2) := by
  rw [scanP, if_pos hi, h]; rfl
theorem scanP_done (k : Nat) (s : ByteArray) (i : Nat) (st : Int) (hi : i < s.size) (h : nxt st (bt s i) = (5, true)) : scanP (k + 1) s i st = (i + 1, 0) := by
  rw [scanP, if_pos hi, h]; rfl
theorem scanP_on (k : Nat) (s : ByteArray) (i : Nat) (st nx : Int) (hi : i < s.size) (h : nxt st (bt s i) = (nx, true)) (h5 : nx ≠ 5) : scanP (k + 1) s i st = scanP k s (i + 1) nx := by
  rw [scanP, if_pos hi, h]; simp only [if_pos]; rw [if_neg h5]
theorem results_cell3 {fn : Func} {p u x : Tmp} {ty : TypeId} (h : fn.results = #[.cell p ty, .tmp u, .tmp x]) (tmps : Array Value) (P : Program) (w : World) (a : Addr) (v : Value)
    (hp : tmps.getD p undef = .pointer (some a)) (hA : (isAgg ty).run P w = .ok false w) (hc : w.cell? a = some v) : (results fn tmps).run P w = .ok (.tuple #[v, tmps.getD u undef, tmps.getD x undef]) w := by
  rw [Array.getD_eq_getD_getElem?] at hp
  simp only [results, h]
  simp [Sem.run_bind, Result.andThen, hp, loadVar, hA, asAddr, go_sem, hc]
def fldOf (s : ByteArray) : Fld := ⟨parseF s, parseV s⟩
def fieldsOf : List (Nat × ByteArray) → List Fld
  | [] => []
  | x :: l => if x.2.size = 0 then [] else fldOf x.2 :: fieldsOf l
theorem fieldsOf_snoc : ∀ (l : List (Nat × ByteArray)) (x : Nat × ByteArray), (∀ y ∈ l, y.2.size ≠ 0) → fieldsOf (l ++ [x]) = fieldsOf l ++ (if x.2.size = 0 then [] else [fldOf x.2])
  | [], x, _ => rfl
  | y :: l, x, h => by
    rw [List.cons_append, fieldsOf, fieldsOf, if_neg (h y List.mem_cons_self), if_neg (h y List.mem_cons_self), fieldsOf_snoc l x (fun z hz => h z (List.mem_cons_of_mem _ hz))]
    rfl
theorem fieldsOf_prefix : ∀ l r : List (Nat × ByteArray), (∃ y ∈ l, y.2.size = 0) → fieldsOf (l ++ r) = fieldsOf l
  | [], _, ⟨_, h, _⟩ => absurd h List.not_mem_nil
  | x :: l, r, ⟨y, hy, h0⟩ => by
    rw [List.cons_append, fieldsOf, fieldsOf]
    by_cases hx : x.2.size = 0
    · rw [if_pos hx, if_pos hx]
    · rw [if_neg hx, if_neg hx, fieldsOf_prefix l r]
      rcases List.mem_cons.1 hy with rfl | hy
      · exact absurd h0 hx
      · exact ⟨y, hy, h0⟩
theorem fieldsOf_length : ∀ l : List (Nat × ByteArray), (fieldsOf l).length ≤ l.length
  | [] => Nat.le_refl _
  | x :: l => by
    have := fieldsOf_length l
    rw [fieldsOf]
    split
    · simp
    · simp only [List.length_cons]; omega
def hasNil (l : List (Nat × ByteArray)) : Prop := ∃ y ∈ l, y.2.size = 0
def noNil (l : List (Nat × ByteArray)) : Prop := ∀ y ∈ l, y.2.size ≠ 0
theorem noNil_snoc {l : List (Nat × ByteArray)} {x : Nat × ByteArray} (h : noNil l) (hx : x.2.size ≠ 0) : noNil (l ++ [x]) := fun y hy => (List.mem_append.1 hy).elim (h y) (fun hy => by rcases List.mem_singleton.1 hy with rfl; exact hx)
def encF (x : Fld) : List Value := [.string x.f0, .string x.f1]
def scanR (s : ByteArray) : List Fld × Int × Int :=
  if (scanP (s.size + 1) s 0 0).2 = 0 then (fieldsOf (linesOf ((s.extract 0 (scanP (s.size + 1) s 0 0).1).size + 1) (s.extract 0 (scanP (s.size + 1) s 0 0).1) 0), (((scanP (s.size + 1) s 0 0).1 : Nat) : Int), 0)
  else ([], (((scanP (s.size + 1) s 0 0).1 : Nat) : Int), (scanP (s.size + 1) s 0 0).2)
theorem extract0_size (s : ByteArray) (k : Nat) (h : k ≤ s.size) : (s.extract 0 k).size = k := by
  have h1 := congrArg List.length (extract_to s k)
  rw [← size_eq_length, List.length_take, ← size_eq_length] at h1
  omega
theorem scanR_bad {s : ByteArray} {i : Nat} {e : Int} (h : scanP (s.size + 1) s 0 0 = (i, e)) (he : e ≠ 0) : scanR s = ([], (i : Int), e) := by
  unfold scanR
  rw [h, if_neg he]
theorem scanR_good {s : ByteArray} {i : Nat} (h : scanP (s.size + 1) s 0 0 = (i, 0)) (hi : i ≤ s.size) : scanR s = (fieldsOf (linesOf (i + 1) (s.extract 0 i) 0), (i : Int), 0) := by
  unfold scanR
  rw [h, if_pos rfl, extract0_size s i hi]
set_option maxRecDepth 100000 in
set_option maxHeartbeats 2000000 in
theorem scan_in (n : Nat) (hn : 4 ≤ n) (s : ByteArray) (hs : s.size < 4000000000) (w : World) (hG : TabOk w) :
    CallsIn Fence.wide n Tryd.prog 31 #[.string s] w fun e w' => ∃ (v : Value) (l : List Fld) (i er : Int), e = .returned (.tuple #[v, .int .i64 i, .int .i64 er]) ∧ scanR s = (l, i, er) ∧ Kd.R k24 24 w' w.heap.size (fun _ => True) v l ∧ Below w.heap.size w w' := by
  have h1 : 1 ≤ n := by omega
  refine callsIn_of_wp_marks Tryd.func31 rfl trivial ?_ rfl
  simp only [Tryd.ntmps31, List.size_toArray, List.length_cons, List.length_nil, Nat.reduceAdd, Nat.reduceSub, Array.replicate_succ, Array.replicate_zero, List.push_toArray, List.append_toArray, List.nil_append, List.cons_append]
  gi_wp2
  refine wpIn_scope_straight ?_
  gi_wp2
  apply wpIn_label
  gi_wp2
  gi_loopw [3, 5] (fun v3 v5 wr => ∃ (i k : Nat) (st : Int), i ≤ s.size ∧ s.size - i < k ∧ v3 = .int .i64 i ∧ v5 = .int .i64 st ∧ st ≠ 5 ∧ Aside0 (scanP (s.size + 1) s 0 0 = scanP k s i st) ∧ Aside0 (Boxed wr w.heap.size 36 (.slice none 0 0)) ∧ Aside0 (Below w.heap.size w wr))
    (fun v3 _ _ => s.size - (intOf v3).toNat)
  case atStart => exact ⟨0, s.size + 1, 0, Nat.zero_le _, by omega, rfl, rfl, by decide, ⟨rfl⟩, ⟨Boxed.new _ _ _⟩, ⟨below_alloc (Below.refl _ _) _⟩⟩
  case round =>
    obtain ⟨i, k, st, hi, hk, rfl, rfl, hst, hE, hbx, hb⟩ := hrel
    by_cases hlt : i < s.size
    · obtain ⟨k, rfl⟩ : ∃ q, k = q + 1 := ⟨k - 1, by omega⟩
      obtain ⟨q, hq⟩ : ∃ q, nxt st (bt s i) = q := ⟨_, rfl⟩
      obtain ⟨nx, ok⟩ := q
      have HC := Aside0.mk (block_next.calls st (bt s i) nx ok wr (hG.below hb.out) (by rw [nxt_eq, hq]))
      rw [bt_get s i hlt] at HC
      have HQ := Aside0.mk hq
      clear hq
      gi_wp2
      refine ⟨trivial, ?_⟩
      refine (callsIn_wide.2 HC.out).mono ?_
      rintro e w1 ⟨rfl, b1⟩
      have B1 := Aside0.mk (hb.out.trans (b1.mono hb.out.size))
      have X1 := Aside0.mk (show Boxed w1 w.heap.size 36 (.slice none 0 0) from (b1.block _ hbx.out.lt).trans hbx.out)
      clear b1 HC hbx hb
      cases ok with
      | false =>
        have hcl := X1.out.cell
        have hfz := X1.out.frozen
        gi_wp2
        refine ⟨_, results_cell3 rfl _ _ _ ⟨w.heap.size, 0, none⟩ (.slice none 0 0) rfl (run_isAgg_plain Tryd.underlying36 rfl _) (X1.out.set _).cell, ?_⟩
        exact ⟨_, [], _, _, rfl, scanR_bad (hE.out.trans (scanP_bad k s i st nx hlt HQ.out)) (by decide), Kd.R_nil _ _ _ _ _, B1.out.setCell (p := ⟨w.heap.size, 0, none⟩) (Nat.le_refl _) _⟩
      | true =>
        by_cases h5 : nx = 5
        · subst h5
          have HP := Aside0.mk (hE.out.trans (scanP_done k s i st hlt HQ.out))
          clear hE HQ
          have HL := Aside0.mk (lines_calls (s.extract 0 (i + 1)) w1)
          gi_wp2
          refine ⟨trivial, ?_⟩
          refine (callsIn_wide.2 HL.out).mono ?_
          rintro e w2 ⟨rfl, rfl⟩
          clear HL
          gi_wp2
          have hs1 := extract0_size s (i + 1) (by omega)
          have HB2 := Aside0.mk (show Below w.heap.size w (w1.alloc (.cells #[.string (s.extract 0 (i + 1))] 9)) from below_alloc B1.out _)
          have hwx : w.heap.size < w1.heap.size := X1.out.lt
          obtain ⟨ls, hls⟩ : ∃ ls, linesOf (i + 1 + 1) (s.extract 0 (i + 1)) 0 = ls := ⟨_, rfl⟩
          have HLL := Aside0.mk (show ls.length ≤ i + 2 by rw [← hls]; exact linesOf_length _ _ _)
          have HLZ := Aside0.mk (show ∀ y ∈ ls, y.2.size ≤ i + 1 by rw [← hls]; intro y hy; have := linesOf_size _ _ _ y hy; rwa [hs1] at this)
          have HSR := Aside0.mk (show scanR s = (fieldsOf ls, ((i + 1 : Nat) : Int), 0) by rw [scanR_good HP.out (by omega), hls])
          have HSQ := Aside0.mk (lines_own (n - 1) (by omega) w1.heap.size (s.extract 0 (i + 1)) (by rw [hs1]; omega) w hG _ HB2.out (Boxed.new w1 9 (.string (s.extract 0 (i + 1)))))
          rw [hs1, hls] at HSQ
          clear hls
          refine wpIn_range_own (F := Fence.wide) rfl rfl h1 (gf := 60) (lb := #[.pointer (some ⟨w1.heap.size, 0, none⟩)]) rfl trivial (enters_of Tryd.func60 (by kernel_rfl) rfl) HSQ.out (Below.refl _ _) (fun r h => h.elim)
            (by rintro r (h | rfl) <;> rw [World.size_alloc] <;> omega) (fun _ => rfl)
            (fun pre g W => ((∀ q, g = some q → w1.heap.size + 3 ≤ q) ∧ ∃ v, v.ownBlock = g ∧ Boxed W w.heap.size 36 v ∧ W.ownsRow w.heap.size 24 2 v (fieldsOf pre).length ((fieldsOf pre).flatMap encF)) ∧ (Below w.heap.size w W ∧ noNil pre))
            (fun c pre g W => ((∀ q, g = some q → w1.heap.size + 3 ≤ q) ∧ ∃ v, v.ownBlock = g ∧ Boxed W w.heap.size 36 v ∧ W.ownsRow w.heap.size 24 2 v (fieldsOf pre).length ((fieldsOf pre).flatMap encF)) ∧ (Below w.heap.size w W ∧ (c = .exit 2 ∧ hasNil pre)))
            (Abd.and (Abd.rowed (fun pre => (fieldsOf pre).length) (fun pre => (fieldsOf pre).flatMap encF) _ (by rw [World.size_alloc]; omega) (by rw [World.size_alloc]; omega) (fun h => h) (fun r h => h.elim)) (Abd.and (Abd.low (by rw [World.size_alloc]; omega) (Nat.le_refl _) (fun r h => h.elim)) (Abd.pure (β := List (Nat × ByteArray)) (fun pre _ => noNil pre))))
            (fun c => Abd.and (Abd.rowed (fun pre => (fieldsOf pre).length) (fun pre => (fieldsOf pre).flatMap encF) _ (by rw [World.size_alloc]; omega) (by rw [World.size_alloc]; omega) (fun h => h) (fun r h => h.elim)) (Abd.and (Abd.low (by rw [World.size_alloc]; omega) (Nat.le_refl _) (fun r h => h.elim)) (Abd.pure (β := List (Nat × ByteArray)) (fun pre _ => c = .exit 2 ∧ hasNil pre))))
            ⟨⟨(fun q e => by cases e), _, rfl, X1.out.alloc _, World.ownsRow_nil _ _ _ _⟩, HB2.out, fun y hy => absurd hy List.not_mem_nil⟩
            (fun pre g W q h e => by have := h.1.1 q e; rw [World.size_alloc]; omega) (fun c pre g W q h e => by have := h.1.1 q e; rw [World.size_alloc]; omega)
            (fun x a' _ => a' = { tmps := #[Value.string s, undef, Value.pointer (some { block := w.heap.size, off := 0 }),
              Value.int IntKind.i64 (↑i + 1), u4, Value.int IntKind.i64 5, Value.int IntKind.i64 5, Value.bool true, undef,
              Value.string x.2, undef, undef, Value.int IntKind.i64 ↑i, Value.string s, Value.int IntKind.i64 ↑s.size, Value.bool true,
              Value.tuple #[Value.int IntKind.i64 5, Value.bool true], Value.int IntKind.i64 st, Value.string s,
              Value.int IntKind.i64 ↑i, Value.int IntKind.u8 ↑s[i].toNat,
              Value.tuple #[Value.int IntKind.i64 5, Value.bool true], Value.int IntKind.i64 5, Value.bool true,
              Value.bool true, Value.bool false, u26, Value.int IntKind.i64 ↑i, Value.int IntKind.i64 (↑i + 1),
              Value.int IntKind.i64 5, Value.int IntKind.i64 5, Value.bool true, Value.int IntKind.i64 5, Value.bool false,
              undef, Value.string s, Value.int IntKind.i64 (↑i + 1), Value.string (s.extract 0 (i + 1)),
              Value.func (Fn.func 60) #[] #[Value.pointer (some { block := w1.heap.size, off := 0 })], Value.int IntKind.i64 ((x.1 : Nat) : Int), Value.string x.2, undef,
              undef, undef, undef, undef, undef, undef, undef, undef, undef, undef, undef, undef], defers := [] })
            (fun x a' _ _ _ _ _ h _ _ => h) ?assign ?body ?done ?stop
          case assign =>
            intro l pre x g W K hI hK
            dsimp only [encL]
            gi_wp2
            exact hK _ _ (Spares.refl _ _ _) hI rfl
          case body =>
            rintro l pre ⟨at', ln⟩ g a' W hW2 ⟨⟨hgq, v, rfl, hbw, hrow⟩, hBW, hne⟩ rfl hsp
            have hmem : ((at', ln) : Nat × ByteArray) ∈ ls := hsp.subset (List.mem_append_right _ List.mem_cons_self)
            have hlz : ln.size ≤ i + 1 := HLZ.out _ hmem
            have hpl : (fieldsOf pre).length + 1 ≤ i + 2 := by
              have h1 := hsp.length_le
              have h2 := HLL.out
              have h3 := fieldsOf_length pre
              rw [List.length_append, List.length_singleton] at h1
              omega
            have HF := Aside0.mk (fieldsOf_snoc pre (at', ln) hne)
            have HGQ := Aside0.mk hgq
            have HROW := Aside0.mk hrow
            have HBW := Aside0.mk hBW
            have HNE := Aside0.mk hne
            have HBX := Aside0.mk hbw
            rw [World.size_alloc] at hW2
            clear hgq hrow hBW hne hbw hsp hmem
            by_cases h0 : ln.size = 0
            · obtain rfl : ln = ⟨#[]⟩ := ByteArray.ext (Array.eq_empty_of_size_eq_zero h0)
              gi_wp2
              refine ⟨_, Spares.refl _ _ _, ⟨HGQ.out, v, rfl, HBX.out, ?_⟩, HBW.out, rfl, (show hasNil _ from ⟨(at', ⟨#[]⟩), List.mem_append_right _ List.mem_cons_self, rfl⟩)⟩
              rw [HF.out, if_pos h0, List.append_nil]
              exact HROW.out
            · obtain ⟨r3, hr3⟩ : ∃ r3 : Int, (if lineB ln = true then (0 : Int) else 2) = r3 := ⟨_, rfl⟩
              have HC := Aside0.mk (field_Parse.calls ln (parseF ln) (parseV ln) r3 W (hG.below HBW.out) (by rw [field_Parse_eq ln (by omega), hr3]))
              clear hr3
              have hne1 : (ln.toList == ([] : List UInt8)) = false := by
                rw [ByteArray.toList_eq, beq_eq_false_iff_ne]
                intro e
                apply h0
                rw [size_eq_length, e]; rfl
              have hne2 : (ln.toList = ([] : List UInt8)) = False := by simpa using hne1
              have hne3 : (ln = (⟨#[]⟩ : ByteArray)) = False := by
                refine eq_false ?_
                rintro rfl
                exact h0 rfl
              rw [if_neg h0] at HF
              gi_wp2
              refine ⟨trivial, (fun _ => by omega), ?_⟩
              refine (CallsIn.inRound l (callsIn_wide.2 HC.out)).mono ?_
              rintro e w2 ⟨rfl, b2⟩
              have HB2 := Aside0.mk b2
              have HX2 := Aside0.mk (show Boxed w2 w.heap.size 36 v from (b2.block _ HBX.out.lt).trans HBX.out)
              have HR2 := Aside0.mk (show w2.ownsRow w.heap.size 24 2 v (fieldsOf pre).length ((fieldsOf pre).flatMap encF) from own_move HROW.out (fun k hk => b2.block k (own_lt HROW.out k hk)))
              have hcl2 := (HX2.out.alloc (.cells #[.string (parseF ln), .string (parseV ln)] 24)).cell
              clear b2 HC HROW HBX
              gi_wp2_with (gi_at_builtin; refine halt ?_)
              refine unhalt ?_
              refine in_append w.heap.size rfl _ _ 36 24 (.agg #[(.string ⟨#[]⟩), (.string ⟨#[]⟩)]) 2 32 rfl Tryd.underlying36 info24 rfl (by decide) (by omega) v (fieldsOf pre).length ((fieldsOf pre).flatMap encF) [.string (parseF ln), .string (parseV ln)] rfl ?hx rfl ?one (HR2.out.alloc _) ?base ?lim ?_
              case hx => rw [World.size_alloc]; rfl
              case one =>
                intro u hu
                rcases List.mem_cons.1 hu with rfl | hu
                · rfl
                · rcases List.mem_singleton.1 hu with rfl
                  rfl
              case base =>
                rw [World.size_alloc]
                have := HBW.out.size
                have := HB2.out.size
                omega
              case lim => omega
              intro v1 w3 ho3 hg3 hat3
              obtain ⟨g', cap', rfl⟩ := ownsRow_succ ho3
              obtain ⟨hv1, hv2, hr2, hk2, hb2⟩ := collected (K := fun k => (w1.alloc (.cells #[.string (s.extract 0 (i + 1))] 9)).heap.size ≤ k ∨ (k < w.heap.size ∨ k = w1.heap.size)) (HX2.out.alloc _) (by decide) (HR2.out.alloc _) (by rw [World.size_alloc]; omega) (Nat.le_refl _) ho3 hg3 hat3
              have hc1 := hv1.cell
              have hf1 := hv1.frozen
              have HV2 := Aside0.mk hv2
              have HRR := Aside0.mk hr2
              have HK2 := Aside0.mk hk2
              have HB3 := Aside0.mk hb2
              clear hv1 hv2 hr2 hk2 hb2 ho3 hg3 hat3
              gi_wp2
              refine ⟨_, ((Spares.below HB2.out).trans (Spares.below (below_alloc (Below.refl _ _) _))).trans HK2.out, ⟨HK2.out.ge (n := w1.heap.size + 3) (by rw [World.size_alloc]; have := HB2.out.size; omega) HGQ.out, _, rfl, HV2.out, ?_⟩, (below_alloc (HBW.out.trans (HB2.out.mono HBW.out.size)) _).trans HB3.out, noNil_snoc HNE.out h0⟩
              rw [HF.out, List.length_append, List.flatMap_append]
              exact HRR.out
          case done =>
            rintro D ys g W hD rfl ⟨⟨hgq, v, rfl, hbw, hrow⟩, hBW, hne⟩ hK
            obtain ⟨a0, n0, c0, hv0⟩ := owns_slice hrow
            subst hv0
            rw [World.size_alloc] at hD
            obtain ⟨q1, q2, q3, q4⟩ := closed hbw (by decide) hrow (Nat.le_refl _) (by omega) hK
            have Q1 := Aside0.mk q1
            have Q2 := Aside0.mk q2
            have Q3 := Aside0.mk q3
            have Q4 := Aside0.mk (hBW.trans q4)
            have hcl := hbw.cell
            have hfz := hbw.frozen
            clear q1 q2 q3 q4 hrow hBW hbw hK hgq
            gi_wp2
            refine ⟨by simp, .inl ⟨_, _, rfl, run_takeDeferred Q1.out, ?_⟩⟩
            refine ⟨_, results_cell3 rfl _ _ _ ⟨w.heap.size, 0, none⟩ (.slice a0 n0 c0) rfl (run_isAgg_plain Tryd.underlying36 rfl _) Q2.out.cell, ?_⟩
            exact ⟨_, fieldsOf ys, _, _, rfl, HSR.out, row_of_owns k24 encF (fun _ => rfl) (fun _ x => k24_mkM _ _ _ x) Q3.out, Q4.out⟩
          case stop =>
            rintro D c pre g W hD hsp ⟨⟨hgq, v, rfl, hbw, hrow⟩, hBW, rfl, hz⟩ hK
            have HSS := Aside0.mk (show scanR s = (fieldsOf pre, ((i + 1 : Nat) : Int), 0) by
              obtain ⟨r, hr⟩ := hsp
              rw [HSR.out, ← hr, fieldsOf_prefix pre r hz])
            clear hsp hz
            obtain ⟨a0, n0, c0, hv0⟩ := owns_slice hrow
            subst hv0
            rw [World.size_alloc] at hD
            obtain ⟨q1, q2, q3, q4⟩ := closed hbw (by decide) hrow (Nat.le_refl _) (by omega) hK
            have Q1 := Aside0.mk q1
            have Q2 := Aside0.mk q2
            have Q3 := Aside0.mk q3
            have Q4 := Aside0.mk (hBW.trans q4)
            have hcl := hbw.cell
            have hfz := hbw.frozen
            clear q1 q2 q3 q4 hrow hBW hbw hK hgq
            gi_wp2
            refine ⟨by simp, .inl ⟨_, _, rfl, run_takeDeferred Q1.out, ?_⟩⟩
            refine ⟨_, results_cell3 rfl _ _ _ ⟨w.heap.size, 0, none⟩ (.slice a0 n0 c0) rfl (run_isAgg_plain Tryd.underlying36 rfl _) Q2.out.cell, ?_⟩
            exact ⟨_, fieldsOf pre, _, _, rfl, HSS.out, row_of_owns k24 encF (fun _ => rfl) (fun _ x => k24_mkM _ _ _ x) Q3.out, Q4.out⟩
        · have HP := Aside0.mk (hE.out.trans (scanP_on k s i st nx hlt HQ.out h5))
          clear hE HQ
          gi_wp2
          go_roundw
          case rel => exact ⟨i + 1, k, nx, by omega, by omega, congrArg (Value.int IntKind.i64) (by omega), rfl, h5, HP, X1, B1⟩
          case measure => simp [intOf]; omega
    · have hie : i = s.size := by omega
      subst hie
      have HP := Aside0.mk (hE.out.trans (scanP_end k s st))
      have hcl := hbx.out.cell
      have hfz := hbx.out.frozen
      clear hE
      gi_wp2
      refine ⟨_, results_cell3 rfl _ _ _ ⟨w.heap.size, 0, none⟩ (.slice none 0 0) rfl (run_isAgg_plain Tryd.underlying36 rfl _) (hbx.out.set _).cell, ?_⟩
      exact ⟨_, [], _, _, rfl, scanR_bad HP.out (by decide), Kd.R_nil _ _ _ _ _, hb.out.setCell (p := ⟨w.heap.size, 0, none⟩) (Nat.le_refl _) _⟩
def block_Scan.f (a0 : ByteArray) : Option ((List S24) × Int × Int) := if a0.size < 4000000000 then some (scanR a0) else none
theorem block_Scan.calls (a0 : ByteArray) (r1 : List S24) (r2 : Int) (r3 : Int) (w : World) (hG : TabOk w) (h : block_Scan.f a0 = some (r1, r2, r3)) :
    Calls Tryd.prog 31 #[.string a0] w fun e w' => ∃ v0_ : Value, e = .returned (.tuple #[v0_, .int .i64 r2, .int .i64 r3]) ∧ Kd.R k24 24 w' w.heap.size (fun _ => True) v0_ r1 ∧ Below w.heap.size w w' := by
  unfold block_Scan.f at h
  split at h
  · rename_i hs
    injection h with h
    refine (callsIn_wide.1 (scan_in 4 (Nat.le_refl _) a0 hs w hG)).mono ?_
    rintro e w' ⟨v, l, i, er, rfl, hr, hR, hb⟩
    rw [h] at hr
    cases hr
    exact ⟨v, rfl, hR, hb⟩
  · cases h
end Go.Proofs.YtdkecmjoenfjdaaDoorH
end
section
namespace Go.Proofs.YtdkecmjoenfjdaaDoor.Pr
open Go.RowKit Go.Proofs.YtdkecmjoenfjdaaDoorH Go.Proofs.YtdkecmjoenfjdaaDoorW.PrintWords Go.Proofs.YtdkecmjoenfjdaaDoorW.PrintLast Go.Proofs.YtdkecmjoenfjdaaDoorW.PrintMore
attribute [local go_sem] max2_int min2_int max_two min_two max_three min_three max_four min_four   -- for this text's walks alone
set_option linter.unusedVariables false
set_option linter.unusedSimpArgs false
def catchpitlaw06_wakes.f  : Option (Bool) := (block_Scan.f (⟨#[97, 58, 32, 49, 13, 10, 13, 10, 120]⟩ : ByteArray)).bind fun bt293 => ((block_Scan.f (⟨#[97, 32, 98]⟩ : ByteArray)).bind fun bt298 => (if (bt293.1.length : Int) = 1 then (if bt293.2.1 = 8 then (if bt293.2.2 = 0 then (if bt298.2.1 = 1 then (some (bt298.2.2 == 2)) else (some false)) else (some false)) else (some false)) else (some false)))
set_option maxHeartbeats 8000000 in
set_option maxRecDepth 100000 in
theorem catchpitlaw06_wakes.calls  (r : Bool) (w : World) (hG : TabOk w) (h : catchpitlaw06_wakes.f  = some r) :
    Calls Tryd.prog 30 #[] w fun e w' => e = .returned (.bool r) ∧ Below w.heap.size w w' := by
  have HB := Aside0.mk (Below.refl w.heap.size w)
  have H : ((block_Scan.f (⟨#[97, 58, 32, 49, 13, 10, 13, 10, 120]⟩ : ByteArray)).bind fun bt293 => ((block_Scan.f (⟨#[97, 32, 98]⟩ : ByteArray)).bind fun bt298 => (if (bt293.1.length : Int) = 1 then (if bt293.2.1 = 8 then (if bt293.2.2 = 0 then (if bt298.2.1 = 1 then (some (bt298.2.2 == 2)) else (some false)) else (some false)) else (some false)) else (some false)))) = some r := h
  clear h
  replace H := Option.bind_eq_some_iff.mp H
  obtain ⟨⟨t293, t294, t295⟩, A10, H⟩ := H
  replace H : ((block_Scan.f (⟨#[97, 32, 98]⟩ : ByteArray)).bind fun bt298 => (if (t293.length : Int) = 1 then (if t294 = 8 then (if t295 = 0 then (if bt298.2.1 = 1 then (some (bt298.2.2 == 2)) else (some false)) else (some false)) else (some false)) else (some false))) = some r := H
  have A1 := Aside0.mk A10
  clear A10
  replace H := Option.bind_eq_some_iff.mp H
  obtain ⟨⟨t298, t299, t300⟩, A20, H⟩ := H
  replace H : (if (t293.length : Int) = 1 then (if t294 = 8 then (if t295 = 0 then (if t299 = 1 then (some (t300 == 2)) else (some false)) else (some false)) else (some false)) else (some false)) = some r := H
  have A2 := Aside0.mk A20
  clear A20
  by_cases c3 : (t293.length : Int) = 1
  · rw [if_pos c3] at H
    have c3b0 : ((t293.length : Int) == 1) = true := beq_iff_eq.mpr c3
    have c3b1 : ((t293.length : Int) != 1) = false := bne_eq_false_iff_eq.mpr c3
    clear c3
    by_cases c4 : t294 = 8
    · rw [if_pos c4] at H
      have c4b0 : (t294 == 8) = true := beq_iff_eq.mpr c4
      have c4b1 : (t294 != 8) = false := bne_eq_false_iff_eq.mpr c4
      clear c4
      by_cases c5 : t295 = 0
      · rw [if_pos c5] at H
        have c5b0 : (t295 == 0) = true := beq_iff_eq.mpr c5
        have c5b1 : (t295 != 0) = false := bne_eq_false_iff_eq.mpr c5
        clear c5
        by_cases c6 : t299 = 1
        · rw [if_pos c6] at H
          have c6b0 : (t299 == 1) = true := beq_iff_eq.mpr c6
          have c6b1 : (t299 != 1) = false := bne_eq_false_iff_eq.mpr c6
          clear c6
          obtain rfl := Option.some.inj H
          go_enter Tryd.func30, Tryd.ntmps30
          go_wp2_with (first | ((with_reducible refine gate_callee (f := 31) rfl ?_); refine goesL_ (some 8) rfl rfl Tryd.func31 (by kernel_rfl) rfl #[.string (⟨#[97, 58, 32, 49, 13, 10, 13, 10, 120]⟩ : ByteArray)] rfl (by (try simp only [List.map_toArray, List.map_cons, List.map_nil]); first | done | rfl | (simp only [List.length_drop, List.length_take]; rfl)) ?_; (with_reducible refine (block_Scan.calls (⟨#[97, 58, 32, 49, 13, 10, 13, 10, 120]⟩ : ByteArray) t293 t294 t295 _ ?side1 A1.out).mono ?_); (case side1 => first | exact hG | exact TabOk.drewN hG _ | exact TabOk.drewN (TabOk.drewN hG _) _ | exact TabOk.below hG (by repeat (first | (with_reducible first | exact HB.out | apply below_alloc | apply pw_below_drewN | apply below_drew1) | exact HB.out))); rintro e w7 ⟨v296, rfl, ho0, hb⟩; refine ⟨_, rfl, ?_⟩; have n0_ := Aside0.mk (Kd.R_lower ho0 (below_size (by repeat (first | (with_reducible first | exact HB.out | apply below_alloc | apply pw_below_drewN | apply below_drew1) | exact HB.out)))); have n1_ := Aside0.mk (below_step (by repeat (first | (with_reducible first | exact HB.out | apply below_alloc | apply pw_below_drewN | apply below_drew1) | exact HB.out)) hb); clear HB; have HO297 := n0_; have HB := n1_; clear n0_ n1_; (try clear hb); (try clear hb2); (try clear hk); (try clear hi); (try clear ho0)) | ((with_reducible refine gate_callee (f := 31) rfl ?_); refine goesL_ (some 13) rfl rfl Tryd.func31 (by kernel_rfl) rfl #[.string (⟨#[97, 32, 98]⟩ : ByteArray)] rfl (by (try simp only [List.map_toArray, List.map_cons, List.map_nil]); first | done | rfl | (simp only [List.length_drop, List.length_take]; rfl)) ?_; (with_reducible refine (block_Scan.calls (⟨#[97, 32, 98]⟩ : ByteArray) t298 t299 t300 _ ?side1 A2.out).mono ?_); (case side1 => first | exact hG | exact TabOk.drewN hG _ | exact TabOk.drewN (TabOk.drewN hG _) _ | exact TabOk.below hG (by repeat (first | (with_reducible first | exact HB.out | apply below_alloc | apply pw_below_drewN | apply below_drew1) | exact HB.out))); rintro e w8 ⟨v301, rfl, ho0, hb⟩; refine ⟨_, rfl, ?_⟩; have n0_ := Aside0.mk (Kd.R_elder' (by (with_reducible repeat (first | apply Kd.R_alloc | apply Kd.R_drewN | apply Kd.R_drew)); exact HO297.out) (Kd.R_base ho0) hb); have n1_ := Aside0.mk (Kd.R_lower (Kd.R_new' ho0 (Kd.R_lt (by (with_reducible repeat (first | apply Kd.R_alloc | apply Kd.R_drewN | apply Kd.R_drew)); exact HO297.out))) (below_size (by repeat (first | (with_reducible first | exact HB.out | apply below_alloc | apply pw_below_drewN | apply below_drew1) | exact HB.out)))); have n2_ := Aside0.mk (below_step (by repeat (first | (with_reducible first | exact HB.out | apply below_alloc | apply pw_below_drewN | apply below_drew1) | exact HB.out)) hb); clear HO297; clear HB; have HO297 := n0_; have HO302 := n1_; have HB := n2_; clear n0_ n1_ n2_; (try clear hb); (try clear hb2); (try clear hk); (try clear hi); (try clear ho0); obtain ⟨Ao9, co9, eo9⟩ := Kd.R_slice HO297.out; subst eo9))
          go_ret
          exact ⟨by first | rfl | (simp [errW_none, errW_some] <;> rfl) | (simp [*, errW_none, errW_some] <;> rfl), by repeat (first | (with_reducible first | exact HB.out | apply below_alloc | apply pw_below_drewN | apply below_drew1) | exact HB.out)⟩
        · rw [if_neg c6] at H
          have c6b0 : (t299 == 1) = false := beq_eq_false_iff_ne.mpr c6
          have c6b1 : (t299 != 1) = true := bne_iff_ne.mpr c6
          obtain rfl := Option.some.inj H
          go_enter Tryd.func30, Tryd.ntmps30
          go_wp2_with (first | ((with_reducible refine gate_callee (f := 31) rfl ?_); refine goesL_ (some 8) rfl rfl Tryd.func31 (by kernel_rfl) rfl #[.string (⟨#[97, 58, 32, 49, 13, 10, 13, 10, 120]⟩ : ByteArray)] rfl (by (try simp only [List.map_toArray, List.map_cons, List.map_nil]); first | done | rfl | (simp only [List.length_drop, List.length_take]; rfl)) ?_; (with_reducible refine (block_Scan.calls (⟨#[97, 58, 32, 49, 13, 10, 13, 10, 120]⟩ : ByteArray) t293 t294 t295 _ ?side1 A1.out).mono ?_); (case side1 => first | exact hG | exact TabOk.drewN hG _ | exact TabOk.drewN (TabOk.drewN hG _) _ | exact TabOk.below hG (by repeat (first | (with_reducible first | exact HB.out | apply below_alloc | apply pw_below_drewN | apply below_drew1) | exact HB.out))); rintro e w10 ⟨v296, rfl, ho0, hb⟩; refine ⟨_, rfl, ?_⟩; have n0_ := Aside0.mk (Kd.R_lower ho0 (below_size (by repeat (first | (with_reducible first | exact HB.out | apply below_alloc | apply pw_below_drewN | apply below_drew1) | exact HB.out)))); have n1_ := Aside0.mk (below_step (by repeat (first | (with_reducible first | exact HB.out | apply below_alloc | apply pw_below_drewN | apply below_drew1) | exact HB.out)) hb); clear HB; have HO297 := n0_; have HB := n1_; clear n0_ n1_; (try clear hb); (try clear hb2); (try clear hk); (try clear hi); (try clear ho0)) | ((with_reducible refine gate_callee (f := 31) rfl ?_); refine goesL_ (some 13) rfl rfl Tryd.func31 (by kernel_rfl) rfl #[.string (⟨#[97, 32, 98]⟩ : ByteArray)] rfl (by (try simp only [List.map_toArray, List.map_cons, List.map_nil]); first | done | rfl | (simp only [List.length_drop, List.length_take]; rfl)) ?_; (with_reducible refine (block_Scan.calls (⟨#[97, 32, 98]⟩ : ByteArray) t298 t299 t300 _ ?side1 A2.out).mono ?_); (case side1 => first | exact hG | exact TabOk.drewN hG _ | exact TabOk.drewN (TabOk.drewN hG _) _ | exact TabOk.below hG (by repeat (first | (with_reducible first | exact HB.out | apply below_alloc | apply pw_below_drewN | apply below_drew1) | exact HB.out))); rintro e w11 ⟨v301, rfl, ho0, hb⟩; refine ⟨_, rfl, ?_⟩; have n0_ := Aside0.mk (Kd.R_elder' (by (with_reducible repeat (first | apply Kd.R_alloc | apply Kd.R_drewN | apply Kd.R_drew)); exact HO297.out) (Kd.R_base ho0) hb); have n1_ := Aside0.mk (Kd.R_lower (Kd.R_new' ho0 (Kd.R_lt (by (with_reducible repeat (first | apply Kd.R_alloc | apply Kd.R_drewN | apply Kd.R_drew)); exact HO297.out))) (below_size (by repeat (first | (with_reducible first | exact HB.out | apply below_alloc | apply pw_below_drewN | apply below_drew1) | exact HB.out)))); have n2_ := Aside0.mk (below_step (by repeat (first | (with_reducible first | exact HB.out | apply below_alloc | apply pw_below_drewN | apply below_drew1) | exact HB.out)) hb); clear HO297; clear HB; have HO297 := n0_; have HO302 := n1_; have HB := n2_; clear n0_ n1_ n2_; (try clear hb); (try clear hb2); (try clear hk); (try clear hi); (try clear ho0); obtain ⟨Ao12, co12, eo12⟩ := Kd.R_slice HO297.out; subst eo12))
          go_ret
          exact ⟨by first | rfl | (simp [errW_none, errW_some] <;> rfl) | (simp [*, errW_none, errW_some] <;> rfl), by repeat (first | (with_reducible first | exact HB.out | apply below_alloc | apply pw_below_drewN | apply below_drew1) | exact HB.out)⟩
      · rw [if_neg c5] at H
        have c5b0 : (t295 == 0) = false := beq_eq_false_iff_ne.mpr c5
        have c5b1 : (t295 != 0) = true := bne_iff_ne.mpr c5
        obtain rfl := Option.some.inj H
        go_enter Tryd.func30, Tryd.ntmps30
        go_wp2_with (first | ((with_reducible refine gate_callee (f := 31) rfl ?_); refine goesL_ (some 8) rfl rfl Tryd.func31 (by kernel_rfl) rfl #[.string (⟨#[97, 58, 32, 49, 13, 10, 13, 10, 120]⟩ : ByteArray)] rfl (by (try simp only [List.map_toArray, List.map_cons, List.map_nil]); first | done | rfl | (simp only [List.length_drop, List.length_take]; rfl)) ?_; (with_reducible refine (block_Scan.calls (⟨#[97, 58, 32, 49, 13, 10, 13, 10, 120]⟩ : ByteArray) t293 t294 t295 _ ?side1 A1.out).mono ?_); (case side1 => first | exact hG | exact TabOk.drewN hG _ | exact TabOk.drewN (TabOk.drewN hG _) _ | exact TabOk.below hG (by repeat (first | (with_reducible first | exact HB.out | apply below_alloc | apply pw_below_drewN | apply below_drew1) | exact HB.out))); rintro e w13 ⟨v296, rfl, ho0, hb⟩; refine ⟨_, rfl, ?_⟩; have n0_ := Aside0.mk (Kd.R_lower ho0 (below_size (by repeat (first | (with_reducible first | exact HB.out | apply below_alloc | apply pw_below_drewN | apply below_drew1) | exact HB.out)))); have n1_ := Aside0.mk (below_step (by repeat (first | (with_reducible first | exact HB.out | apply below_alloc | apply pw_below_drewN | apply below_drew1) | exact HB.out)) hb); clear HB; have HO297 := n0_; have HB := n1_; clear n0_ n1_; (try clear hb); (try clear hb2); (try clear hk); (try clear hi); (try clear ho0)) | ((with_reducible refine gate_callee (f := 31) rfl ?_); refine goesL_ (some 13) rfl rfl Tryd.func31 (by kernel_rfl) rfl #[.string (⟨#[97, 32, 98]⟩ : ByteArray)] rfl (by (try simp only [List.map_toArray, List.map_cons, List.map_nil]); first | done | rfl | (simp only [List.length_drop, List.length_take]; rfl)) ?_; (with_reducible refine (block_Scan.calls (⟨#[97, 32, 98]⟩ : ByteArray) t298 t299 t300 _ ?side1 A2.out).mono ?_); (case side1 => first | exact hG | exact TabOk.drewN hG _ | exact TabOk.drewN (TabOk.drewN hG _) _ | exact TabOk.below hG (by repeat (first | (with_reducible first | exact HB.out | apply below_alloc | apply pw_below_drewN | apply below_drew1) | exact HB.out))); rintro e w14 ⟨v301, rfl, ho0, hb⟩; refine ⟨_, rfl, ?_⟩; have n0_ := Aside0.mk (Kd.R_elder' (by (with_reducible repeat (first | apply Kd.R_alloc | apply Kd.R_drewN | apply Kd.R_drew)); exact HO297.out) (Kd.R_base ho0) hb); have n1_ := Aside0.mk (Kd.R_lower (Kd.R_new' ho0 (Kd.R_lt (by (with_reducible repeat (first | apply Kd.R_alloc | apply Kd.R_drewN | apply Kd.R_drew)); exact HO297.out))) (below_size (by repeat (first | (with_reducible first | exact HB.out | apply below_alloc | apply pw_below_drewN | apply below_drew1) | exact HB.out)))); have n2_ := Aside0.mk (below_step (by repeat (first | (with_reducible first | exact HB.out | apply below_alloc | apply pw_below_drewN | apply below_drew1) | exact HB.out)) hb); clear HO297; clear HB; have HO297 := n0_; have HO302 := n1_; have HB := n2_; clear n0_ n1_ n2_; (try clear hb); (try clear hb2); (try clear hk); (try clear hi); (try clear ho0); obtain ⟨Ao15, co15, eo15⟩ := Kd.R_slice HO297.out; subst eo15))
        go_ret
        exact ⟨by first | rfl | (simp [errW_none, errW_some] <;> rfl) | (simp [*, errW_none, errW_some] <;> rfl), by repeat (first | (with_reducible first | exact HB.out | apply below_alloc | apply pw_below_drewN | apply below_drew1) | exact HB.out)⟩
    · rw [if_neg c4] at H
      have c4b0 : (t294 == 8) = false := beq_eq_false_iff_ne.mpr c4
      have c4b1 : (t294 != 8) = true := bne_iff_ne.mpr c4
      obtain rfl := Option.some.inj H
      go_enter Tryd.func30, Tryd.ntmps30
      go_wp2_with (first | ((with_reducible refine gate_callee (f := 31) rfl ?_); refine goesL_ (some 8) rfl rfl Tryd.func31 (by kernel_rfl) rfl #[.string (⟨#[97, 58, 32, 49, 13, 10, 13, 10, 120]⟩ : ByteArray)] rfl (by (try simp only [List.map_toArray, List.map_cons, List.map_nil]); first | done | rfl | (simp only [List.length_drop, List.length_take]; rfl)) ?_; (with_reducible refine (block_Scan.calls (⟨#[97, 58, 32, 49, 13, 10, 13, 10, 120]⟩ : ByteArray) t293 t294 t295 _ ?side1 A1.out).mono ?_); (case side1 => first | exact hG | exact TabOk.drewN hG _ | exact TabOk.drewN (TabOk.drewN hG _) _ | exact TabOk.below hG (by repeat (first | (with_reducible first | exact HB.out | apply below_alloc | apply pw_below_drewN | apply below_drew1) | exact HB.out))); rintro e w16 ⟨v296, rfl, ho0, hb⟩; refine ⟨_, rfl, ?_⟩; have n0_ := Aside0.mk (Kd.R_lower ho0 (below_size (by repeat (first | (with_reducible first | exact HB.out | apply below_alloc | apply pw_below_drewN | apply below_drew1) | exact HB.out)))); have n1_ := Aside0.mk (below_step (by repeat (first | (with_reducible first | exact HB.out | apply below_alloc | apply pw_below_drewN | apply below_drew1) | exact HB.out)) hb); clear HB; have HO297 := n0_; have HB := n1_; clear n0_ n1_; (try clear hb); (try clear hb2); (try clear hk); (try clear hi); (try clear ho0)) | ((with_reducible refine gate_callee (f := 31) rfl ?_); refine goesL_ (some 13) rfl rfl Tryd.func31 (by kernel_rfl) rfl #[.string (⟨#[97, 32, 98]⟩ : ByteArray)] rfl (by (try simp only [List.map_toArray, List.map_cons, List.map_nil]); first | done | rfl | (simp only [List.length_drop, List.length_take]; rfl)) ?_; (with_reducible refine (block_Scan.calls (⟨#[97, 32, 98]⟩ : ByteArray) t298 t299 t300 _ ?side1 A2.out).mono ?_); (case side1 => first | exact hG | exact TabOk.drewN hG _ | exact TabOk.drewN (TabOk.drewN hG _) _ | exact TabOk.below hG (by repeat (first | (with_reducible first | exact HB.out | apply below_alloc | apply pw_below_drewN | apply below_drew1) | exact HB.out))); rintro e w17 ⟨v301, rfl, ho0, hb⟩; refine ⟨_, rfl, ?_⟩; have n0_ := Aside0.mk (Kd.R_elder' (by (with_reducible repeat (first | apply Kd.R_alloc | apply Kd.R_drewN | apply Kd.R_drew)); exact HO297.out) (Kd.R_base ho0) hb); have n1_ := Aside0.mk (Kd.R_lower (Kd.R_new' ho0 (Kd.R_lt (by (with_reducible repeat (first | apply Kd.R_alloc | apply Kd.R_drewN | apply Kd.R_drew)); exact HO297.out))) (below_size (by repeat (first | (with_reducible first | exact HB.out | apply below_alloc | apply pw_below_drewN | apply below_drew1) | exact HB.out)))); have n2_ := Aside0.mk (below_step (by repeat (first | (with_reducible first | exact HB.out | apply below_alloc | apply pw_below_drewN | apply below_drew1) | exact HB.out)) hb); clear HO297; clear HB; have HO297 := n0_; have HO302 := n1_; have HB := n2_; clear n0_ n1_ n2_; (try clear hb); (try clear hb2); (try clear hk); (try clear hi); (try clear ho0); obtain ⟨Ao18, co18, eo18⟩ := Kd.R_slice HO297.out; subst eo18))
      go_ret
      exact ⟨by first | rfl | (simp [errW_none, errW_some] <;> rfl) | (simp [*, errW_none, errW_some] <;> rfl), by repeat (first | (with_reducible first | exact HB.out | apply below_alloc | apply pw_below_drewN | apply below_drew1) | exact HB.out)⟩
  · rw [if_neg c3] at H
    have c3b0 : ((t293.length : Int) == 1) = false := beq_eq_false_iff_ne.mpr c3
    have c3b1 : ((t293.length : Int) != 1) = true := bne_iff_ne.mpr c3
    obtain rfl := Option.some.inj H
    go_enter Tryd.func30, Tryd.ntmps30
    go_wp2_with (first | ((with_reducible refine gate_callee (f := 31) rfl ?_); refine goesL_ (some 8) rfl rfl Tryd.func31 (by kernel_rfl) rfl #[.string (⟨#[97, 58, 32, 49, 13, 10, 13, 10, 120]⟩ : ByteArray)] rfl (by (try simp only [List.map_toArray, List.map_cons, List.map_nil]); first | done | rfl | (simp only [List.length_drop, List.length_take]; rfl)) ?_; (with_reducible refine (block_Scan.calls (⟨#[97, 58, 32, 49, 13, 10, 13, 10, 120]⟩ : ByteArray) t293 t294 t295 _ ?side1 A1.out).mono ?_); (case side1 => first | exact hG | exact TabOk.drewN hG _ | exact TabOk.drewN (TabOk.drewN hG _) _ | exact TabOk.below hG (by repeat (first | (with_reducible first | exact HB.out | apply below_alloc | apply pw_below_drewN | apply below_drew1) | exact HB.out))); rintro e w19 ⟨v296, rfl, ho0, hb⟩; refine ⟨_, rfl, ?_⟩; have n0_ := Aside0.mk (Kd.R_lower ho0 (below_size (by repeat (first | (with_reducible first | exact HB.out | apply below_alloc | apply pw_below_drewN | apply below_drew1) | exact HB.out)))); have n1_ := Aside0.mk (below_step (by repeat (first | (with_reducible first | exact HB.out | apply below_alloc | apply pw_below_drewN | apply below_drew1) | exact HB.out)) hb); clear HB; have HO297 := n0_; have HB := n1_; clear n0_ n1_; (try clear hb); (try clear hb2); (try clear hk); (try clear hi); (try clear ho0)) | ((with_reducible refine gate_callee (f := 31) rfl ?_); refine goesL_ (some 13) rfl rfl Tryd.func31 (by kernel_rfl) rfl #[.string (⟨#[97, 32, 98]⟩ : ByteArray)] rfl (by (try simp only [List.map_toArray, List.map_cons, List.map_nil]); first | done | rfl | (simp only [List.length_drop, List.length_take]; rfl)) ?_; (with_reducible refine (block_Scan.calls (⟨#[97, 32, 98]⟩ : ByteArray) t298 t299 t300 _ ?side1 A2.out).mono ?_); (case side1 => first | exact hG | exact TabOk.drewN hG _ | exact TabOk.drewN (TabOk.drewN hG _) _ | exact TabOk.below hG (by repeat (first | (with_reducible first | exact HB.out | apply below_alloc | apply pw_below_drewN | apply below_drew1) | exact HB.out))); rintro e w20 ⟨v301, rfl, ho0, hb⟩; refine ⟨_, rfl, ?_⟩; have n0_ := Aside0.mk (Kd.R_elder' (by (with_reducible repeat (first | apply Kd.R_alloc | apply Kd.R_drewN | apply Kd.R_drew)); exact HO297.out) (Kd.R_base ho0) hb); have n1_ := Aside0.mk (Kd.R_lower (Kd.R_new' ho0 (Kd.R_lt (by (with_reducible repeat (first | apply Kd.R_alloc | apply Kd.R_drewN | apply Kd.R_drew)); exact HO297.out))) (below_size (by repeat (first | (with_reducible first | exact HB.out | apply below_alloc | apply pw_below_drewN | apply below_drew1) | exact HB.out)))); have n2_ := Aside0.mk (below_step (by repeat (first | (with_reducible first | exact HB.out | apply below_alloc | apply pw_below_drewN | apply below_drew1) | exact HB.out)) hb); clear HO297; clear HB; have HO297 := n0_; have HO302 := n1_; have HB := n2_; clear n0_ n1_ n2_; (try clear hb); (try clear hb2); (try clear hk); (try clear hi); (try clear ho0); obtain ⟨Ao21, co21, eo21⟩ := Kd.R_slice HO297.out; subst eo21))
    go_ret
    exact ⟨by first | rfl | (simp [errW_none, errW_some] <;> rfl) | (simp [*, errW_none, errW_some] <;> rfl), by repeat (first | (with_reducible first | exact HB.out | apply below_alloc | apply pw_below_drewN | apply below_drew1) | exact HB.out)⟩
end Go.Proofs.YtdkecmjoenfjdaaDoor.Pr
end
section
namespace Go.Proofs.YtdkecmjoenfjdaaDoor.Pr
open Go.RowKit Go.Proofs.YtdkecmjoenfjdaaDoorH Go.Proofs.YtdkecmjoenfjdaaDoorW.PrintWords Go.Proofs.YtdkecmjoenfjdaaDoorW.PrintLast Go.Proofs.YtdkecmjoenfjdaaDoorW.PrintMore
attribute [local go_sem] max2_int min2_int max_two min_two max_three min_three max_four min_four   -- for this text's walks alone
set_option linter.unusedVariables false
set_option linter.unusedSimpArgs false
mutual
def catchpitref06_Wrong.j1 : Nat → ByteArray → Int → Option (Int)
  | 0, _, _ => none
  | k + 1, x0, x3 => if x3 = (x0.size : Int) then (some (-1)) else (if 0 ≤ x3 then (if x3 < (x0.size : Int) then (if (bt x0 x3) = 58 then (catchpitref06_Wrong.j2 k x0 x3 (x3 == 0)) else (catchpitref06_Wrong.j2 k x0 x3 true)) else (none)) else (none))
def catchpitref06_Wrong.j2 : Nat → ByteArray → Int → Bool → Option (Int)
  | 0, _, _, _ => none
  | k + 1, x0, x3, x29 => if x29 = true then (some x3) else (catchpitref06_Wrong.l1 k x0 (wrap64 (x3 + 1)))
def catchpitref06_Wrong.j4 : Nat → ByteArray → Int → Option (Int)
  | 0, _, _ => none
  | k + 1, x0, x3 => if x3 = (x0.size : Int) then (some (-1)) else (if 0 ≤ x3 then (if x3 < (x0.size : Int) then (if (bt x0 x3) = 13 then (if (wrap64 (x3 + 1)) < (x0.size : Int) then (if 0 ≤ (wrap64 (x3 + 1)) then (if (bt x0 (wrap64 (x3 + 1))) = 10 then (some (-1)) else (some (wrap64 (x3 + 1)))) else (none)) else (some (-1))) else (some x3)) else (none)) else (none))
def catchpitref06_Wrong.l1 : Nat → ByteArray → Int → Option (Int)
  | 0, _, _ => none
  | k + 1, x0, x3 => if x3 < (x0.size : Int) then (if 0 ≤ x3 then ((catchpitref02_Byte.f (bt x0 x3)).bind fun t304 => (if t304 = true then (catchpitref06_Wrong.l1 k x0 (wrap64 (x3 + 1))) else (catchpitref06_Wrong.j4 k x0 x3))) else (none)) else (catchpitref06_Wrong.j4 k x0 x3)
def catchpitref06_Wrong.l0 : Nat → ByteArray → Int → Option (Int)
  | 0, _, _ => none
  | k + 1, x0, x3 => if x3 < (x0.size : Int) then (if 0 ≤ x3 then (if x3 ≤ (wrap64 (x3 + 1)) then (if (wrap64 (x3 + 1)) ≤ (x0.size : Int) then ((catchpitref02_Token.f k (x0.extract (x3 : Int).toNat ((wrap64 (x3 + 1)) : Int).toNat)).bind fun t303 => (if t303 = true then (catchpitref06_Wrong.l0 k x0 (wrap64 (x3 + 1))) else (catchpitref06_Wrong.j1 k x0 x3))) else (none)) else (none)) else (none)) else (catchpitref06_Wrong.j1 k x0 x3)
end
def catchpitref06_Wrong.f (k : Nat) (a0 : ByteArray) : Option (Int) := catchpitref06_Wrong.l0 k a0 0
theorem catchpitref06_Wrong.mono_l : ∀ k, (∀ y0 y1, LeO (catchpitref06_Wrong.j1 k y0 y1) (catchpitref06_Wrong.j1 (k + 1) y0 y1)) ∧ (∀ y0 y1 y2, LeO (catchpitref06_Wrong.j2 k y0 y1 y2) (catchpitref06_Wrong.j2 (k + 1) y0 y1 y2)) ∧ (∀ y0 y1, LeO (catchpitref06_Wrong.j4 k y0 y1) (catchpitref06_Wrong.j4 (k + 1) y0 y1)) ∧ (∀ y0 y1, LeO (catchpitref06_Wrong.l1 k y0 y1) (catchpitref06_Wrong.l1 (k + 1) y0 y1)) ∧ (∀ y0 y1, LeO (catchpitref06_Wrong.l0 k y0 y1) (catchpitref06_Wrong.l0 (k + 1) y0 y1))
  | 0 => ⟨fun _ _ r h => by simp [catchpitref06_Wrong.j1] at h, fun _ _ _ r h => by simp [catchpitref06_Wrong.j2] at h, fun _ _ r h => by simp [catchpitref06_Wrong.j4] at h, fun _ _ r h => by simp [catchpitref06_Wrong.l1] at h, fun _ _ r h => by simp [catchpitref06_Wrong.l0] at h⟩
  | k + 1 => by
    obtain ⟨ih0, ih1, ih2, ih3, ih4⟩ := catchpitref06_Wrong.mono_l k
    refine ⟨?_, ?_, ?_, ?_, ?_⟩
    · intro y0 y1
      unfold catchpitref06_Wrong.j1
      repeat' first
      | (with_reducible exact ih0 _ _)
      | (with_reducible exact ih1 _ _ _)
      | (with_reducible exact ih2 _ _)
      | (with_reducible exact ih3 _ _)
      | (with_reducible exact ih4 _ _)
      | (with_reducible exact catchpitref02_Token.mono _ _)
      | (with_reducible exact LeO.refl _)
      | (with_reducible exact LeO.none _)
      | (with_reducible refine LeO.ite ?_ ?_)
      | (with_reducible refine LeO.bind ?_ (fun _ => ?_))
      | exact ih0 _ _
      | exact ih1 _ _ _
      | exact ih2 _ _
      | exact ih3 _ _
      | exact ih4 _ _
      | exact catchpitref02_Token.mono _ _
      | exact LeO.none _
      | refine LeO.ite ?_ ?_
      | refine LeO.bind ?_ (fun _ => ?_)
    · intro y0 y1 y2
      unfold catchpitref06_Wrong.j2
      repeat' first
      | (with_reducible exact ih0 _ _)
      | (with_reducible exact ih1 _ _ _)
      | (with_reducible exact ih2 _ _)
      | (with_reducible exact ih3 _ _)
      | (with_reducible exact ih4 _ _)
      | (with_reducible exact catchpitref02_Token.mono _ _)
      | (with_reducible exact LeO.refl _)
      | (with_reducible exact LeO.none _)
      | (with_reducible refine LeO.ite ?_ ?_)
      | (with_reducible refine LeO.bind ?_ (fun _ => ?_))
      | exact ih0 _ _
      | exact ih1 _ _ _
      | exact ih2 _ _
      | exact ih3 _ _
      | exact ih4 _ _
      | exact catchpitref02_Token.mono _ _
      | exact LeO.none _
      | refine LeO.ite ?_ ?_
      | refine LeO.bind ?_ (fun _ => ?_)
    · intro y0 y1
      unfold catchpitref06_Wrong.j4
      repeat' first
      | (with_reducible exact ih0 _ _)
      | (with_reducible exact ih1 _ _ _)
      | (with_reducible exact ih2 _ _)
      | (with_reducible exact ih3 _ _)
      | (with_reducible exact ih4 _ _)
      | (with_reducible exact catchpitref02_Token.mono _ _)
      | (with_reducible exact LeO.refl _)
      | (with_reducible exact LeO.none _)
      | (with_reducible refine LeO.ite ?_ ?_)
      | (with_reducible refine LeO.bind ?_ (fun _ => ?_))
      | exact ih0 _ _
      | exact ih1 _ _ _
      | exact ih2 _ _
      | exact ih3 _ _
      | exact ih4 _ _
      | exact catchpitref02_Token.mono _ _
      | exact LeO.none _
      | refine LeO.ite ?_ ?_
      | refine LeO.bind ?_ (fun _ => ?_)
    · intro y0 y1
      unfold catchpitref06_Wrong.l1
      repeat' first
      | (with_reducible exact ih0 _ _)
      | (with_reducible exact ih1 _ _ _)
      | (with_reducible exact ih2 _ _)
      | (with_reducible exact ih3 _ _)
      | (with_reducible exact ih4 _ _)
      | (with_reducible exact catchpitref02_Token.mono _ _)
      | (with_reducible exact LeO.refl _)
      | (with_reducible exact LeO.none _)
      | (with_reducible refine LeO.ite ?_ ?_)
      | (with_reducible refine LeO.bind ?_ (fun _ => ?_))
      | exact ih0 _ _
      | exact ih1 _ _ _
      | exact ih2 _ _
      | exact ih3 _ _
      | exact ih4 _ _
      | exact catchpitref02_Token.mono _ _
      | exact LeO.none _
      | refine LeO.ite ?_ ?_
      | refine LeO.bind ?_ (fun _ => ?_)
    · intro y0 y1
      unfold catchpitref06_Wrong.l0
      repeat' first
      | (with_reducible exact ih0 _ _)
      | (with_reducible exact ih1 _ _ _)
      | (with_reducible exact ih2 _ _)
      | (with_reducible exact ih3 _ _)
      | (with_reducible exact ih4 _ _)
      | (with_reducible exact catchpitref02_Token.mono _ _)
      | (with_reducible exact LeO.refl _)
      | (with_reducible exact LeO.none _)
      | (with_reducible refine LeO.ite ?_ ?_)
      | (with_reducible refine LeO.bind ?_ (fun _ => ?_))
      | exact ih0 _ _
      | exact ih1 _ _ _
      | exact ih2 _ _
      | exact ih3 _ _
      | exact ih4 _ _
      | exact catchpitref02_Token.mono _ _
      | exact LeO.none _
      | refine LeO.ite ?_ ?_
      | refine LeO.bind ?_ (fun _ => ?_)
theorem catchpitref06_Wrong.mono : ∀ a0 k, LeO (catchpitref06_Wrong.f k a0) (catchpitref06_Wrong.f (k + 1) a0) := by
  intro a0 k
  obtain ⟨ih0, ih1, ih2, ih3, ih4⟩ := catchpitref06_Wrong.mono_l k
  unfold catchpitref06_Wrong.f
  repeat' first
      | (with_reducible exact ih0 _ _)
      | (with_reducible exact ih1 _ _ _)
      | (with_reducible exact ih2 _ _)
      | (with_reducible exact ih3 _ _)
      | (with_reducible exact ih4 _ _)
      | (with_reducible exact catchpitref02_Token.mono _ _)
      | (with_reducible exact LeO.refl _)
      | (with_reducible exact LeO.none _)
      | (with_reducible refine LeO.ite ?_ ?_)
      | (with_reducible refine LeO.bind ?_ (fun _ => ?_))
      | exact ih0 _ _
      | exact ih1 _ _ _
      | exact ih2 _ _
      | exact ih3 _ _
      | exact ih4 _ _
      | exact catchpitref02_Token.mono _ _
      | exact LeO.none _
      | refine LeO.ite ?_ ?_
      | refine LeO.bind ?_ (fun _ => ?_)
set_option maxHeartbeats 8000000 in
set_option maxRecDepth 100000 in
theorem catchpitref06_Wrong.calls (k : Nat) (a0 : ByteArray) (r : Int) (w : World) (hG : TabOk w) (h : catchpitref06_Wrong.f k a0 = some r) :
    Calls Tryd.prog 58 #[.string a0] w fun e w' => e = .returned (.int .i64 r) ∧ Drawn0 w w' := by
  have H : (catchpitref06_Wrong.l0 k a0 0) = some r := h
  clear h
  have HC2 := Aside0.mk H
  clear H
  go_enter Tryd.func58, Tryd.ntmps58
  go_upto_block 0 with (fail)
  go_cut [3] (fun v3 wc => ∃ (kq : Nat) (x3_1 : Int), v3 = .int .i64 x3_1 ∧ Aside0 (catchpitref06_Wrong.j1 kq a0 x3_1 = some r) ∧ Aside0 (kq ≤ k) ∧ Drawn0 w wc)
  case first =>
    have H := HC2.out
    clear HC2
    have H' := Aside0.mk H
    clear H
    go_wp2
    go_loopg [3] k (fun kq v3 w' => ∃ (x3_1 : Int), v3 = .int .i64 x3_1 ∧ Aside0 (catchpitref06_Wrong.l0 kq a0 x3_1 = some r) ∧ Aside0 (kq ≤ k) ∧ Drawn0 w w')
    case atStart => exact ⟨(0), (by first | rfl | (simp; done) | (simp [*]; done)), H', ⟨Nat.le_refl _⟩, by repeat (first | exact Drawn0.refl _ | apply Drawn0.step)⟩
    case round =>
      clear H'
      try clear p2
      obtain ⟨x3_1, rfl, HA, HK1, ⟨m1, rfl⟩⟩ := hrel
      cases gk with
      | zero => exact absurd HA.out (by simp [catchpitref06_Wrong.l0])
      | succ k1 =>
        have H := HA.out
        clear HA
        simp only [catchpitref06_Wrong.l0] at H
        by_cases c3 : x3_1 < (a0.size : Int)
        · rw [if_pos c3] at H
          have c3b0 : decide (x3_1 < (a0.size : Int)) = true := decide_eq_true c3
          clear c3
          (first | rw [c3b0] | (simp only [i64_w, i32_w]; rw [c3b0]) | skip)
          by_cases c4 : 0 ≤ x3_1
          · rw [if_pos c4] at H
            have c4b0 := eq_true c4
            have c4b1 : decide (0 ≤ x3_1) = true := decide_eq_true c4
            clear c4
            by_cases c5 : x3_1 ≤ (wrap64 (x3_1 + 1))
            · rw [if_pos c5] at H
              have c5b0 := eq_true c5
              have c5b1 : decide (x3_1 ≤ (wrap64 (x3_1 + 1))) = true := decide_eq_true c5
              by_cases c6 : (wrap64 (x3_1 + 1)) ≤ (a0.size : Int)
              · rw [if_pos c6] at H
                have c6b0 := eq_true c6
                have c6b1 : decide ((wrap64 (x3_1 + 1)) ≤ (a0.size : Int)) = true := decide_eq_true c6
                replace H := Option.bind_eq_some_iff.mp H
                obtain ⟨t303, A70, H⟩ := H
                replace H : (if t303 = true then (catchpitref06_Wrong.l0 k1 a0 (wrap64 (x3_1 + 1))) else (catchpitref06_Wrong.j1 k1 a0 x3_1)) = some r := H
                have A7 := Aside0.mk A70
                clear A70
                by_cases c8 : t303 = true
                · subst c8
                  have H1 : (catchpitref06_Wrong.l0 k1 a0 (wrap64 (x3_1 + 1))) = some r := by rw [if_pos rfl] at H; exact H
                  clear H
                  have H := H1
                  clear H1
                  have H' := Aside0.mk H
                  clear H
                  go_wp2_with (first | (go_at_call 40; (with_reducible refine (catchpitref02_Token.calls k1 (a0.extract (x3_1 : Int).toNat ((wrap64 (x3_1 + 1)) : Int).toNat) true _ ?side1 A7.out).mono ?_); (case side1 => first | exact hG | exact TabOk.drewN hG _ | exact TabOk.drewN (TabOk.drewN hG _) _ | exact TabOk.below hG (by repeat (first | (with_reducible first | exact HB.out | apply below_alloc | apply pw_below_drewN | apply below_drew1) | exact HB.out))); rintro e w' ⟨rfl, ⟨nd, rfl⟩⟩))
                  go_roundg k1
                  case measure => have := HK1.out; omega
                  case rel => exact ⟨(wrap64 (x3_1 + 1)), (by first | rfl | (simp; done) | (simp [*]; done)), H', ⟨by have := HK1.out; omega⟩, by repeat (first | exact Drawn0.refl _ | apply Drawn0.step)⟩
                · replace c8 := Bool.eq_false_iff.mpr c8
                  subst c8
                  have H1 : (catchpitref06_Wrong.j1 k1 a0 x3_1) = some r := by rw [if_neg (show ¬ (false = true) by decide)] at H; exact H
                  clear H
                  have H := H1
                  clear H1
                  have H' := Aside0.mk H
                  clear H
                  go_wp2_with (first | (go_at_call 40; (with_reducible refine (catchpitref02_Token.calls k1 (a0.extract (x3_1 : Int).toNat ((wrap64 (x3_1 + 1)) : Int).toNat) false _ ?side1 A7.out).mono ?_); (case side1 => first | exact hG | exact TabOk.drewN hG _ | exact TabOk.drewN (TabOk.drewN hG _) _ | exact TabOk.below hG (by repeat (first | (with_reducible first | exact HB.out | apply below_alloc | apply pw_below_drewN | apply below_drew1) | exact HB.out))); rintro e w' ⟨rfl, ⟨nd, rfl⟩⟩))
                  go_meet
                  case rel => exact ⟨_, (x3_1), (by first | rfl | (simp; done) | (simp [*]; done)), H', ⟨by have := HK1.out; first | omega | exact Nat.le_refl _⟩, by repeat (first | exact Drawn0.refl _ | apply Drawn0.step)⟩
              · rw [if_neg c6] at H
                exact absurd H (by simp)
            · rw [if_neg c5] at H
              exact absurd H (by simp)
          · rw [if_neg c4] at H
            exact absurd H (by simp)
        · rw [if_neg c3] at H
          have c3b0 : decide (x3_1 < (a0.size : Int)) = false := decide_eq_false c3
          clear c3
          (first | rw [c3b0] | (simp only [i64_w, i32_w]; rw [c3b0]) | skip)
          have H' := Aside0.mk H
          clear H
          go_wp2
          go_meet
          case rel => exact ⟨_, (x3_1), (by first | rfl | (simp; done) | (simp [*]; done)), H', ⟨by have := HK1.out; first | omega | exact Nat.le_refl _⟩, by repeat (first | exact Drawn0.refl _ | apply Drawn0.step)⟩
  case rest =>
    clear HC2
    try clear p2
    try clear c3
    try clear c3b0
    try clear c4
    try clear c4b0
    try clear c4b1
    try clear c5
    try clear c5b0
    try clear c5b1
    try clear c6
    try clear c6b0
    try clear c6b1
    try clear p6
    try clear c8
    try clear p2
    obtain ⟨kq, x3_1, rfl, HA, HJ1, ⟨mc1, rfl⟩⟩ := hcut
    cases kq with
    | zero => exact absurd HA.out (by simp [catchpitref06_Wrong.j1])
    | succ kj1 =>
      have H := HA.out
      clear HA
      simp only [catchpitref06_Wrong.j1] at H
      by_cases c9 : x3_1 = (a0.size : Int)
      · rw [if_pos c9] at H
        have c9b0 : (x3_1 == (a0.size : Int)) = true := beq_iff_eq.mpr c9
        have c9b1 : (x3_1 != (a0.size : Int)) = false := bne_eq_false_iff_eq.mpr c9
        clear c9
        obtain rfl := Option.some.inj H
        go_wp2
        go_ret
        exact ⟨by first | rfl | (simp; done) | (simp [*]; done), by repeat (first | exact Drawn0.refl _ | apply Drawn0.step)⟩
      · rw [if_neg c9] at H
        have c9b0 : (x3_1 == (a0.size : Int)) = false := beq_eq_false_iff_ne.mpr c9
        have c9b1 : (x3_1 != (a0.size : Int)) = true := bne_iff_ne.mpr c9
        have HC10 := Aside0.mk H
        clear H
        go_upto_region 6 with (fail)
        go_cut [29] (fun v29 wc => ∃ (kq : Nat) (x29_9 : Bool), v29 = .bool x29_9 ∧ Aside0 (catchpitref06_Wrong.j2 kq a0 x3_1 x29_9 = some r) ∧ Aside0 (kq ≤ kj1) ∧ Drawn0 w wc)
        case first =>
          have H := HC10.out
          clear HC10
          by_cases c11 : 0 ≤ x3_1
          · rw [if_pos c11] at H
            have c11b0 : decide (0 ≤ x3_1) = true := decide_eq_true c11
            clear c11
            (first | rw [c11b0] | (simp only [i64_w, i32_w]; rw [c11b0]) | skip)
            by_cases c12 : x3_1 < (a0.size : Int)
            · rw [if_pos c12] at H
              have c12b0 : decide (x3_1 < (a0.size : Int)) = true := decide_eq_true c12
              clear c12
              by_cases c14 : (bt a0 x3_1) = 58
              · rw [if_pos c14] at H
                have c14b0 : ((bt a0 x3_1) == 58) = true := beq_iff_eq.mpr c14
                have c14b1 : ((bt a0 x3_1) != 58) = false := bne_eq_false_iff_eq.mpr c14
                clear c14
                have H' := Aside0.mk H
                clear H
                have p13 : 0 ≤ (x3_1 : Int) := of_decide_eq_true (by first | (with_reducible assumption) | assumption)
                have q13 : x3_1 < (a0.size : Int) := of_decide_eq_true (by first | (with_reducible assumption) | assumption)
                have hx13 := bt_at a0 x3_1
                replace p13 := eq_true p13
                replace q13 := eq_true q13
                go_wp2
                go_meet
                case rel => exact ⟨_, ((x3_1 == 0)), (by first | rfl | (simp; done) | (simp [*]; done)), H', ⟨by have := HJ1.out; first | omega | exact Nat.le_refl _⟩, by repeat (first | exact Drawn0.refl _ | apply Drawn0.step)⟩
              · rw [if_neg c14] at H
                have c14b0 : ((bt a0 x3_1) == 58) = false := beq_eq_false_iff_ne.mpr c14
                have c14b1 : ((bt a0 x3_1) != 58) = true := bne_iff_ne.mpr c14
                have H' := Aside0.mk H
                clear H
                have p13 : 0 ≤ (x3_1 : Int) := of_decide_eq_true (by first | (with_reducible assumption) | assumption)
                have q13 : x3_1 < (a0.size : Int) := of_decide_eq_true (by first | (with_reducible assumption) | assumption)
                have hx13 := bt_at a0 x3_1
                replace p13 := eq_true p13
                replace q13 := eq_true q13
                go_wp2
                go_meet
                case rel => exact ⟨_, (true), (by first | rfl | (simp; done) | (simp [*]; done)), H', ⟨by have := HJ1.out; first | omega | exact Nat.le_refl _⟩, by repeat (first | exact Drawn0.refl _ | apply Drawn0.step)⟩
            · rw [if_neg c12] at H
              exact absurd H (by simp)
          · rw [if_neg c11] at H
            exact absurd H (by simp)
        case rest =>
          clear HC10
          try clear c1
          try clear p1
          try clear q1
          try clear hx1
          try clear p2
          try clear c3
          try clear c3b0
          try clear c4
          try clear c4b0
          try clear c4b1
          try clear c5
          try clear c5b0
          try clear c5b1
          try clear c6
          try clear c6b0
          try clear c6b1
          try clear p6
          try clear c8
          try clear c9
          try clear c9b0
          try clear c9b1
          try clear c11
          try clear c11b0
          try clear c12
          try clear c12b0
          try clear p13
          try clear q13
          try clear hx13
          try clear c14
          try clear c14b0
          try clear c14b1
          try clear p13
          try clear p2
          try clear p6
          try clear q13
          obtain ⟨kq, x29_9, rfl, HA, HJ9, ⟨mc9, rfl⟩⟩ := hcut
          cases kq with
          | zero => exact absurd HA.out (by simp [catchpitref06_Wrong.j2])
          | succ kj9 =>
            have H := HA.out
            clear HA
            simp only [catchpitref06_Wrong.j2] at H
            by_cases c15 : x29_9 = true
            · subst c15
              have H1 : (some x3_1) = some r := by rw [if_pos rfl] at H; exact H
              clear H
              have H := H1
              clear H1
              obtain rfl := Option.some.inj H
              go_wp2
              go_ret
              exact ⟨by first | rfl | (simp; done) | (simp [*]; done), by repeat (first | exact Drawn0.refl _ | apply Drawn0.step)⟩
            · replace c15 := Bool.eq_false_iff.mpr c15
              subst c15
              have H1 : (catchpitref06_Wrong.l1 kj9 a0 (wrap64 (x3_1 + 1))) = some r := by rw [if_neg (show ¬ (false = true) by decide)] at H; exact H
              clear H
              have H := H1
              clear H1
              have HC16 := Aside0.mk H
              clear H
              go_upto_block 2 with (fail)
              go_cut [3] (fun v3 wc => ∃ (kq : Nat) (x3_15 : Int), v3 = .int .i64 x3_15 ∧ Aside0 (catchpitref06_Wrong.j4 kq a0 x3_15 = some r) ∧ Aside0 (kq ≤ kj9) ∧ Drawn0 w wc)
              case first =>
                have H := HC16.out
                clear HC16
                have H' := Aside0.mk H
                clear H
                go_wp2
                go_loopg [3] kj9 (fun kq v3 w' => ∃ (x3_3 : Int), v3 = .int .i64 x3_3 ∧ Aside0 (catchpitref06_Wrong.l1 kq a0 x3_3 = some r) ∧ Aside0 (kq ≤ kj9) ∧ Drawn0 w w')
                case atStart => exact ⟨(wrap64 (x3_1 + 1)), (by first | rfl | (simp; done) | (simp [*]; done)), H', ⟨Nat.le_refl _⟩, by repeat (first | exact Drawn0.refl _ | apply Drawn0.step)⟩
                case round =>
                  clear H'
                  try clear c1
                  try clear p1
                  try clear q1
                  try clear hx1
                  try clear p2
                  try clear c3
                  try clear c3b0
                  try clear c4
                  try clear c4b0
                  try clear c4b1
                  try clear c5
                  try clear c5b0
                  try clear c5b1
                  try clear c6
                  try clear c6b0
                  try clear c6b1
                  try clear p6
                  try clear c8
                  try clear c9
                  try clear c9b0
                  try clear c9b1
                  try clear c11
                  try clear c11b0
                  try clear c12
                  try clear c12b0
                  try clear p13
                  try clear q13
                  try clear hx13
                  try clear c14
                  try clear c14b0
                  try clear c14b1
                  try clear c15
                  try clear p1
                  try clear p13
                  try clear p2
                  try clear p6
                  try clear q1
                  try clear q13
                  obtain ⟨x3_3, rfl, HA, HK3, ⟨m3, rfl⟩⟩ := hrel
                  cases gk with
                  | zero => exact absurd HA.out (by simp [catchpitref06_Wrong.l1])
                  | succ k3 =>
                    have H := HA.out
                    clear HA
                    simp only [catchpitref06_Wrong.l1] at H
                    by_cases c17 : x3_3 < (a0.size : Int)
                    · rw [if_pos c17] at H
                      have c17b0 : decide (x3_3 < (a0.size : Int)) = true := decide_eq_true c17
                      clear c17
                      (first | rw [c17b0] | (simp only [i64_w, i32_w]; rw [c17b0]) | skip)
                      by_cases c18 : 0 ≤ x3_3
                      · rw [if_pos c18] at H
                        have c18b0 : decide (0 ≤ x3_3) = true := decide_eq_true c18
                        clear c18
                        replace H := Option.bind_eq_some_iff.mp H
                        obtain ⟨t304, A200, H⟩ := H
                        replace H : (if t304 = true then (catchpitref06_Wrong.l1 k3 a0 (wrap64 (x3_3 + 1))) else (catchpitref06_Wrong.j4 k3 a0 x3_3)) = some r := H
                        have A20 := Aside0.mk A200
                        clear A200
                        by_cases c21 : t304 = true
                        · subst c21
                          have H1 : (catchpitref06_Wrong.l1 k3 a0 (wrap64 (x3_3 + 1))) = some r := by rw [if_pos rfl] at H; exact H
                          clear H
                          have H := H1
                          clear H1
                          have H' := Aside0.mk H
                          clear H
                          have p19 : 0 ≤ (x3_3 : Int) := of_decide_eq_true (by first | (with_reducible assumption) | assumption)
                          have q19 : x3_3 < (a0.size : Int) := of_decide_eq_true (by first | (with_reducible assumption) | assumption)
                          have hx19 := bt_at a0 x3_3
                          replace p19 := eq_true p19
                          replace q19 := eq_true q19
                          go_wp2_with (first | (go_at_call 66; (with_reducible refine (catchpitref02_Byte.calls (bt a0 x3_3) true _ ?side1 A20.out).mono ?_); (case side1 => first | exact hG | exact TabOk.drewN hG _ | exact TabOk.drewN (TabOk.drewN hG _) _ | exact TabOk.below hG (by repeat (first | (with_reducible first | exact HB.out | apply below_alloc | apply pw_below_drewN | apply below_drew1) | exact HB.out))); rintro e w' ⟨rfl, ⟨nd, rfl⟩⟩))
                          go_roundg k3
                          case measure => have := HJ1.out; have := HJ9.out; have := HK3.out; omega
                          case rel => exact ⟨(wrap64 (x3_3 + 1)), (by first | rfl | (simp; done) | (simp [*]; done)), H', ⟨by have := HJ1.out; have := HJ9.out; have := HK3.out; omega⟩, by repeat (first | exact Drawn0.refl _ | apply Drawn0.step)⟩
                        · replace c21 := Bool.eq_false_iff.mpr c21
                          subst c21
                          have H1 : (catchpitref06_Wrong.j4 k3 a0 x3_3) = some r := by rw [if_neg (show ¬ (false = true) by decide)] at H; exact H
                          clear H
                          have H := H1
                          clear H1
                          have H' := Aside0.mk H
                          clear H
                          have p19 : 0 ≤ (x3_3 : Int) := of_decide_eq_true (by first | (with_reducible assumption) | assumption)
                          have q19 : x3_3 < (a0.size : Int) := of_decide_eq_true (by first | (with_reducible assumption) | assumption)
                          have hx19 := bt_at a0 x3_3
                          replace p19 := eq_true p19
                          replace q19 := eq_true q19
                          go_wp2_with (first | (go_at_call 66; (with_reducible refine (catchpitref02_Byte.calls (bt a0 x3_3) false _ ?side1 A20.out).mono ?_); (case side1 => first | exact hG | exact TabOk.drewN hG _ | exact TabOk.drewN (TabOk.drewN hG _) _ | exact TabOk.below hG (by repeat (first | (with_reducible first | exact HB.out | apply below_alloc | apply pw_below_drewN | apply below_drew1) | exact HB.out))); rintro e w' ⟨rfl, ⟨nd, rfl⟩⟩))
                          go_meet
                          case rel => exact ⟨_, (x3_3), (by first | rfl | (simp; done) | (simp [*]; done)), H', ⟨by have := HJ1.out; have := HJ9.out; have := HK3.out; first | omega | exact Nat.le_refl _⟩, by repeat (first | exact Drawn0.refl _ | apply Drawn0.step)⟩
                      · rw [if_neg c18] at H
                        exact absurd H (by simp)
                    · rw [if_neg c17] at H
                      have c17b0 : decide (x3_3 < (a0.size : Int)) = false := decide_eq_false c17
                      clear c17
                      (first | rw [c17b0] | (simp only [i64_w, i32_w]; rw [c17b0]) | skip)
                      have H' := Aside0.mk H
                      clear H
                      go_wp2
                      go_meet
                      case rel => exact ⟨_, (x3_3), (by first | rfl | (simp; done) | (simp [*]; done)), H', ⟨by have := HJ1.out; have := HJ9.out; have := HK3.out; first | omega | exact Nat.le_refl _⟩, by repeat (first | exact Drawn0.refl _ | apply Drawn0.step)⟩
              case rest =>
                clear HC16
                try clear c1
                try clear p1
                try clear q1
                try clear hx1
                try clear c2
                try clear p2
                try clear c3
                try clear c3b0
                try clear c4
                try clear c4b0
                try clear c4b1
                try clear c5
                try clear c5b0
                try clear c5b1
                try clear c6
                try clear c6b0
                try clear c6b1
                try clear p6
                try clear c8
                try clear c9
                try clear c9b0
                try clear c9b1
                try clear c11
                try clear c11b0
                try clear c12
                try clear c12b0
                try clear p13
                try clear q13
                try clear hx13
                try clear c14
                try clear c14b0
                try clear c14b1
                try clear c15
                try clear c17
                try clear c17b0
                try clear c18
                try clear c18b0
                try clear p19
                try clear q19
                try clear hx19
                try clear c21
                try clear p1
                try clear p13
                try clear p19
                try clear p2
                try clear p6
                try clear q1
                try clear q13
                try clear q19
                obtain ⟨kq, x3_15, rfl, HA, HJ15, ⟨mc15, rfl⟩⟩ := hcut
                cases kq with
                | zero => exact absurd HA.out (by simp [catchpitref06_Wrong.j4])
                | succ kj15 =>
                  have H := HA.out
                  clear HA
                  simp only [catchpitref06_Wrong.j4] at H
                  by_cases c22 : x3_15 = (a0.size : Int)
                  · rw [if_pos c22] at H
                    have c22b0 : (x3_15 == (a0.size : Int)) = true := beq_iff_eq.mpr c22
                    have c22b1 : (x3_15 != (a0.size : Int)) = false := bne_eq_false_iff_eq.mpr c22
                    clear c22
                    obtain rfl := Option.some.inj H
                    go_wp2
                    go_ret
                    exact ⟨by first | rfl | (simp; done) | (simp [*]; done), by repeat (first | exact Drawn0.refl _ | apply Drawn0.step)⟩
                  · rw [if_neg c22] at H
                    have c22b0 : (x3_15 == (a0.size : Int)) = false := beq_eq_false_iff_ne.mpr c22
                    have c22b1 : (x3_15 != (a0.size : Int)) = true := bne_iff_ne.mpr c22
                    by_cases c23 : 0 ≤ x3_15
                    · rw [if_pos c23] at H
                      have c23b0 : decide (0 ≤ x3_15) = true := decide_eq_true c23
                      clear c23
                      by_cases c24 : x3_15 < (a0.size : Int)
                      · rw [if_pos c24] at H
                        have c24b0 : decide (x3_15 < (a0.size : Int)) = true := decide_eq_true c24
                        clear c24
                        by_cases c26 : (bt a0 x3_15) = 13
                        · rw [if_pos c26] at H
                          have c26b0 : ((bt a0 x3_15) == 13) = true := beq_iff_eq.mpr c26
                          have c26b1 : ((bt a0 x3_15) != 13) = false := bne_eq_false_iff_eq.mpr c26
                          clear c26
                          by_cases c27 : (wrap64 (x3_15 + 1)) < (a0.size : Int)
                          · rw [if_pos c27] at H
                            have c27b0 : decide ((wrap64 (x3_15 + 1)) < (a0.size : Int)) = true := decide_eq_true c27
                            clear c27
                            obtain ⟨ji28, hji28⟩ : ∃ j_ : Int, (wrap64 (x3_15 + 1)) = j_ := ⟨_, rfl⟩
                            replace H : (if 0 ≤ (ji28) then (if (bt a0 (ji28)) = 10 then (some (-1)) else (some ji28)) else (none)) = some r := by first | (rw [hji28] at H; exact H) | (simp only [hji28] at H ⊢; exact H)
                            (try rw [hji28] at c27b0)
                            have hji28w : (IntKind.i64.wrap (x3_15 + 1)) = ji28 := (i64_w _).trans hji28
                            by_cases c29 : 0 ≤ (ji28)
                            · rw [if_pos c29] at H
                              have c29b0 : decide (0 ≤ (ji28)) = true := decide_eq_true c29
                              clear c29
                              by_cases c31 : (bt a0 (ji28)) = 10
                              · rw [if_pos c31] at H
                                have c31b0 : ((bt a0 (ji28)) == 10) = true := beq_iff_eq.mpr c31
                                have c31b1 : ((bt a0 (ji28)) != 10) = false := bne_eq_false_iff_eq.mpr c31
                                clear c31
                                obtain rfl := Option.some.inj H
                                have p25 : 0 ≤ (x3_15 : Int) := of_decide_eq_true (by first | (with_reducible assumption) | assumption)
                                have q25 : x3_15 < (a0.size : Int) := of_decide_eq_true (by first | (with_reducible assumption) | assumption)
                                have hx25 := bt_at a0 x3_15
                                replace p25 := eq_true p25
                                replace q25 := eq_true q25
                                have p30 : 0 ≤ ((ji28) : Int) := of_decide_eq_true (by first | (with_reducible assumption) | assumption)
                                have q30 : (ji28) < (a0.size : Int) := of_decide_eq_true (by first | (with_reducible assumption) | assumption)
                                have hx30 := bt_at a0 (ji28)
                                replace p30 := eq_true p30
                                replace q30 := eq_true q30
                                go_wp2
                                go_ret
                                exact ⟨by first | rfl | (simp; done) | (simp only [← hji28] <;> (first | rfl | simp)) | (simp [*]; done), by repeat (first | exact Drawn0.refl _ | apply Drawn0.step)⟩
                              · rw [if_neg c31] at H
                                have c31b0 : ((bt a0 (ji28)) == 10) = false := beq_eq_false_iff_ne.mpr c31
                                have c31b1 : ((bt a0 (ji28)) != 10) = true := bne_iff_ne.mpr c31
                                obtain rfl := Option.some.inj H
                                have p25 : 0 ≤ (x3_15 : Int) := of_decide_eq_true (by first | (with_reducible assumption) | assumption)
                                have q25 : x3_15 < (a0.size : Int) := of_decide_eq_true (by first | (with_reducible assumption) | assumption)
                                have hx25 := bt_at a0 x3_15
                                replace p25 := eq_true p25
                                replace q25 := eq_true q25
                                have p30 : 0 ≤ ((ji28) : Int) := of_decide_eq_true (by first | (with_reducible assumption) | assumption)
                                have q30 : (ji28) < (a0.size : Int) := of_decide_eq_true (by first | (with_reducible assumption) | assumption)
                                have hx30 := bt_at a0 (ji28)
                                replace p30 := eq_true p30
                                replace q30 := eq_true q30
                                go_wp2
                                go_ret
                                exact ⟨by first | rfl | (simp; done) | (simp only [← hji28] <;> (first | rfl | simp)) | (simp [*]; done), by repeat (first | exact Drawn0.refl _ | apply Drawn0.step)⟩
                            · rw [if_neg c29] at H
                              exact absurd H (by simp)
                          · rw [if_neg c27] at H
                            have c27b0 : decide ((wrap64 (x3_15 + 1)) < (a0.size : Int)) = false := decide_eq_false c27
                            clear c27
                            obtain rfl := Option.some.inj H
                            have p25 : 0 ≤ (x3_15 : Int) := of_decide_eq_true (by first | (with_reducible assumption) | assumption)
                            have q25 : x3_15 < (a0.size : Int) := of_decide_eq_true (by first | (with_reducible assumption) | assumption)
                            have hx25 := bt_at a0 x3_15
                            replace p25 := eq_true p25
                            replace q25 := eq_true q25
                            go_wp2
                            go_ret
                            exact ⟨by first | rfl | (simp; done) | (simp [*]; done), by repeat (first | exact Drawn0.refl _ | apply Drawn0.step)⟩
                        · rw [if_neg c26] at H
                          have c26b0 : ((bt a0 x3_15) == 13) = false := beq_eq_false_iff_ne.mpr c26
                          have c26b1 : ((bt a0 x3_15) != 13) = true := bne_iff_ne.mpr c26
                          obtain rfl := Option.some.inj H
                          have p25 : 0 ≤ (x3_15 : Int) := of_decide_eq_true (by first | (with_reducible assumption) | assumption)
                          have q25 : x3_15 < (a0.size : Int) := of_decide_eq_true (by first | (with_reducible assumption) | assumption)
                          have hx25 := bt_at a0 x3_15
                          replace p25 := eq_true p25
                          replace q25 := eq_true q25
                          go_wp2
                          go_ret
                          exact ⟨by first | rfl | (simp; done) | (simp [*]; done), by repeat (first | exact Drawn0.refl _ | apply Drawn0.step)⟩
                      · rw [if_neg c24] at H
                        exact absurd H (by simp)
                    · rw [if_neg c23] at H
                      exact absurd H (by simp)
end Go.Proofs.YtdkecmjoenfjdaaDoor.Pr
end
section
namespace Go.Proofs.YtdkecmjoenfjdaaDoor.Pr
open Go.RowKit Go.Proofs.YtdkecmjoenfjdaaDoorH Go.Proofs.YtdkecmjoenfjdaaDoorW.PrintWords Go.Proofs.YtdkecmjoenfjdaaDoorW.PrintLast Go.Proofs.YtdkecmjoenfjdaaDoorW.PrintMore
attribute [local go_sem] max2_int min2_int max_two min_two max_three min_three max_four min_four   -- for this text's walks alone
set_option linter.unusedVariables false
set_option linter.unusedSimpArgs false
def catchpitref06_End.l0 : Nat → ByteArray → Int → Option (Int)
  | 0, _, _ => none
  | k + 1, x0, x3 => if (wrap64 (x3 + 1)) < (x0.size : Int) then (if 0 ≤ x3 then (if x3 < (x0.size : Int) then (if (bt x0 x3) = 13 then (if 0 ≤ (wrap64 (x3 + 1)) then (if (bt x0 (wrap64 (x3 + 1))) = 10 then (some (wrap64 (x3 + 2))) else (catchpitref06_End.l0 k x0 (wrap64 (x3 + 1)))) else (none)) else (catchpitref06_End.l0 k x0 (wrap64 (x3 + 1)))) else (none)) else (none)) else (some (-1))
def catchpitref06_End.f (k : Nat) (a0 : ByteArray) : Option (Int) := catchpitref06_End.l0 k a0 0
theorem catchpitref06_End.mono_l : ∀ k, (∀ y0 y1, LeO (catchpitref06_End.l0 k y0 y1) (catchpitref06_End.l0 (k + 1) y0 y1))
  | 0 => fun _ _ r h => by simp [catchpitref06_End.l0] at h
  | k + 1 => by
    have ih0 := catchpitref06_End.mono_l k
    · intro y0 y1
      unfold catchpitref06_End.l0
      repeat' first
      | (with_reducible exact ih0 _ _)
      | (with_reducible exact LeO.refl _)
      | (with_reducible exact LeO.none _)
      | (with_reducible refine LeO.ite ?_ ?_)
      | (with_reducible refine LeO.bind ?_ (fun _ => ?_))
      | exact ih0 _ _
      | exact LeO.none _
      | refine LeO.ite ?_ ?_
      | refine LeO.bind ?_ (fun _ => ?_)
theorem catchpitref06_End.mono : ∀ a0 k, LeO (catchpitref06_End.f k a0) (catchpitref06_End.f (k + 1) a0) := by
  intro a0 k
  have ih0 := catchpitref06_End.mono_l k
  unfold catchpitref06_End.f
  repeat' first
      | (with_reducible exact ih0 _ _)
      | (with_reducible exact LeO.refl _)
      | (with_reducible exact LeO.none _)
      | (with_reducible refine LeO.ite ?_ ?_)
      | (with_reducible refine LeO.bind ?_ (fun _ => ?_))
      | exact ih0 _ _
      | exact LeO.none _
      | refine LeO.ite ?_ ?_
      | refine LeO.bind ?_ (fun _ => ?_)
set_option maxHeartbeats 8000000 in
set_option maxRecDepth 100000 in
theorem catchpitref06_End.calls (k : Nat) (a0 : ByteArray) (r : Int) (w : World) (hG : TabOk w) (h : catchpitref06_End.f k a0 = some r) :
    Calls Tryd.prog 59 #[.string a0] w fun e w' => e = .returned (.int .i64 r) ∧ Drawn0 w w' := by
  have H : (catchpitref06_End.l0 k a0 0) = some r := h
  clear h
  have H' := Aside0.mk H
  clear H
  go_enter Tryd.func59, Tryd.ntmps59
  go_wp2
  go_loopg [3] k (fun kq v3 w' => ∃ (x3_1 : Int), v3 = .int .i64 x3_1 ∧ Aside0 (catchpitref06_End.l0 kq a0 x3_1 = some r) ∧ Aside0 (kq ≤ k) ∧ Drawn0 w w')
  case atStart => exact ⟨(0), (by first | rfl | (simp; done) | (simp [*]; done)), H', ⟨Nat.le_refl _⟩, by repeat (first | exact Drawn0.refl _ | apply Drawn0.step)⟩
  case round =>
    clear H'
    obtain ⟨x3_1, rfl, HA, HK1, ⟨m1, rfl⟩⟩ := hrel
    cases gk with
    | zero => exact absurd HA.out (by simp [catchpitref06_End.l0])
    | succ k1 =>
      have H := HA.out
      clear HA
      simp only [catchpitref06_End.l0] at H
      by_cases c2 : (wrap64 (x3_1 + 1)) < (a0.size : Int)
      · rw [if_pos c2] at H
        have c2b0 : decide ((wrap64 (x3_1 + 1)) < (a0.size : Int)) = true := decide_eq_true c2
        clear c2
        by_cases c3 : 0 ≤ x3_1
        · rw [if_pos c3] at H
          have c3b0 : decide (0 ≤ x3_1) = true := decide_eq_true c3
          clear c3
          by_cases c4 : x3_1 < (a0.size : Int)
          · rw [if_pos c4] at H
            have c4b0 : decide (x3_1 < (a0.size : Int)) = true := decide_eq_true c4
            clear c4
            by_cases c6 : (bt a0 x3_1) = 13
            · rw [if_pos c6] at H
              have c6b0 : ((bt a0 x3_1) == 13) = true := beq_iff_eq.mpr c6
              have c6b1 : ((bt a0 x3_1) != 13) = false := bne_eq_false_iff_eq.mpr c6
              clear c6
              obtain ⟨ji7, hji7⟩ : ∃ j_ : Int, (wrap64 (x3_1 + 1)) = j_ := ⟨_, rfl⟩
              replace H : (if 0 ≤ (ji7) then (if (bt a0 (ji7)) = 10 then (some (wrap64 (x3_1 + 2))) else (catchpitref06_End.l0 k1 a0 ji7)) else (none)) = some r := by first | (rw [hji7] at H; exact H) | (simp only [hji7] at H ⊢; exact H)
              (try rw [hji7] at c2b0)
              have hji7w : (IntKind.i64.wrap (x3_1 + 1)) = ji7 := (i64_w _).trans hji7
              by_cases c8 : 0 ≤ (ji7)
              · rw [if_pos c8] at H
                have c8b0 : decide (0 ≤ (ji7)) = true := decide_eq_true c8
                clear c8
                by_cases c10 : (bt a0 (ji7)) = 10
                · rw [if_pos c10] at H
                  have c10b0 : ((bt a0 (ji7)) == 10) = true := beq_iff_eq.mpr c10
                  have c10b1 : ((bt a0 (ji7)) != 10) = false := bne_eq_false_iff_eq.mpr c10
                  clear c10
                  obtain rfl := Option.some.inj H
                  have p5 : 0 ≤ (x3_1 : Int) := of_decide_eq_true (by first | (with_reducible assumption) | assumption)
                  have q5 : x3_1 < (a0.size : Int) := of_decide_eq_true (by first | (with_reducible assumption) | assumption)
                  have hx5 := bt_at a0 x3_1
                  replace p5 := eq_true p5
                  replace q5 := eq_true q5
                  have p9 : 0 ≤ ((ji7) : Int) := of_decide_eq_true (by first | (with_reducible assumption) | assumption)
                  have q9 : (ji7) < (a0.size : Int) := of_decide_eq_true (by first | (with_reducible assumption) | assumption)
                  have hx9 := bt_at a0 (ji7)
                  replace p9 := eq_true p9
                  replace q9 := eq_true q9
                  go_wp2
                  go_ret
                  exact ⟨by first | rfl | (simp; done) | (simp only [← hji7] <;> (first | rfl | simp)) | (simp [*]; done), by repeat (first | exact Drawn0.refl _ | apply Drawn0.step)⟩
                · rw [if_neg c10] at H
                  have c10b0 : ((bt a0 (ji7)) == 10) = false := beq_eq_false_iff_ne.mpr c10
                  have c10b1 : ((bt a0 (ji7)) != 10) = true := bne_iff_ne.mpr c10
                  have H' := Aside0.mk H
                  clear H
                  have p5 : 0 ≤ (x3_1 : Int) := of_decide_eq_true (by first | (with_reducible assumption) | assumption)
                  have q5 : x3_1 < (a0.size : Int) := of_decide_eq_true (by first | (with_reducible assumption) | assumption)
                  have hx5 := bt_at a0 x3_1
                  replace p5 := eq_true p5
                  replace q5 := eq_true q5
                  have p9 : 0 ≤ ((ji7) : Int) := of_decide_eq_true (by first | (with_reducible assumption) | assumption)
                  have q9 : (ji7) < (a0.size : Int) := of_decide_eq_true (by first | (with_reducible assumption) | assumption)
                  have hx9 := bt_at a0 (ji7)
                  replace p9 := eq_true p9
                  replace q9 := eq_true q9
                  go_wp2
                  go_roundg k1
                  case measure => have := HK1.out; omega
                  case rel => exact ⟨(ji7), (by first | rfl | (simp; done) | (simp only [← hji7] <;> (first | rfl | simp)) | (simp [*]; done)), H', ⟨by have := HK1.out; omega⟩, by repeat (first | exact Drawn0.refl _ | apply Drawn0.step)⟩
              · rw [if_neg c8] at H
                exact absurd H (by simp)
            · rw [if_neg c6] at H
              have c6b0 : ((bt a0 x3_1) == 13) = false := beq_eq_false_iff_ne.mpr c6
              have c6b1 : ((bt a0 x3_1) != 13) = true := bne_iff_ne.mpr c6
              have H' := Aside0.mk H
              clear H
              have p5 : 0 ≤ (x3_1 : Int) := of_decide_eq_true (by first | (with_reducible assumption) | assumption)
              have q5 : x3_1 < (a0.size : Int) := of_decide_eq_true (by first | (with_reducible assumption) | assumption)
              have hx5 := bt_at a0 x3_1
              replace p5 := eq_true p5
              replace q5 := eq_true q5
              go_wp2
              go_roundg k1
              case measure => have := HK1.out; omega
              case rel => exact ⟨(wrap64 (x3_1 + 1)), (by first | rfl | (simp; done) | (simp [*]; done)), H', ⟨by have := HK1.out; omega⟩, by repeat (first | exact Drawn0.refl _ | apply Drawn0.step)⟩
          · rw [if_neg c4] at H
            exact absurd H (by simp)
        · rw [if_neg c3] at H
          exact absurd H (by simp)
      · rw [if_neg c2] at H
        have c2b0 : decide ((wrap64 (x3_1 + 1)) < (a0.size : Int)) = false := decide_eq_false c2
        clear c2
        obtain rfl := Option.some.inj H
        go_wp2
        go_ret
        exact ⟨by first | rfl | (simp; done) | (simp [*]; done), by repeat (first | exact Drawn0.refl _ | apply Drawn0.step)⟩
end Go.Proofs.YtdkecmjoenfjdaaDoor.Pr
end
