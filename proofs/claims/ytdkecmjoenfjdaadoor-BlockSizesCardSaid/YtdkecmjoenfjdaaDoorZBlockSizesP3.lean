import Derived.Test.YtdkecmjoenfjdaaDoorZBlockSizesP1
import Derived.Test.YtdkecmjoenfjdaaDoorZBlockSizesP2
import Derived.RangeFuncNested
import Derived.RangeFuncBound
import Derived.RangeFuncCalls
import Derived.RangeFuncLeaves
import Derived.RangeFuncKeeps
import Derived.Shelf.RegionOpen
import Derived.WalkKit
import Derived.OwnWalkIn
import Derived.TacticsInMore
import Derived.LoopNIn
import Derived.LoopIn
import Derived.ControlIn
import Derived.Scope
import Derived.WalkMore
import Derived.Laws.EntriesVeiled
import Derived.Laws.NewBlocks
import Derived.RangeFuncFrom
import Derived.RangeFuncWrites
import Derived.RangeFuncBox
import Derived.Maps.AppendAt
section
namespace Go.Proofs.YtdkecmjoenfjdaaDoorH
open Go.RowKit Go.Shelf Go.Proofs.YtdkecmjoenfjdaaDoorW.PrintWords Go.Proofs.YtdkecmjoenfjdaaDoorW.PrintLast Go.Proofs.YtdkecmjoenfjdaaDoorW.PrintMore
attribute [local go_sem] Oper.semAt_some
def linesOf : Nat → ByteArray → Nat → List (Nat × ByteArray)
  | 0, _, _ => []
  | k + 1, s, i =>
    let c := Lib.cut (s.data.toList.drop i) [13, 10]
    if c.2.2 then (i, ⟨c.1.toArray⟩) :: (if c.1.isEmpty then [] else linesOf k s (i + c.1.length + 2)) else []
theorem linesOf_succ (k : Nat) (s : ByteArray) (i : Nat) : linesOf (k + 1) s i = if (Lib.cut (s.data.toList.drop i) [13, 10]).2.2 = true then (i, ⟨(Lib.cut (s.data.toList.drop i) [13, 10]).1.toArray⟩) :: (if (Lib.cut (s.data.toList.drop i) [13, 10]).1.isEmpty = true then [] else linesOf k s (i + (Lib.cut (s.data.toList.drop i) [13, 10]).1.length + 2)) else [] := rfl
theorem cut_size (t : List UInt8) (h : (Lib.cut t [13, 10]).2.2 = true) : (Lib.cut t [13, 10]).1.length + 2 ≤ t.length := by
  unfold Lib.cut at h ⊢
  split at h
  · rename_i h0
    have h1 := Lib.index_room t [13, 10] h0
    rw [if_pos h0]
    simp only [List.length_take]
    simp at h1
    omega
  · cases h
theorem linesOf_length : ∀ (k : Nat) (s : ByteArray) (i : Nat), (linesOf k s i).length ≤ k
  | 0, _, _ => Nat.le_refl _
  | k + 1, s, i => by
    rw [linesOf_succ]
    split
    · split
      · simp
      · have := linesOf_length k s (i + (Lib.cut (s.data.toList.drop i) [13, 10]).1.length + 2)
        simp only [List.length_cons]; omega
    · simp
theorem linesOf_size : ∀ (k : Nat) (s : ByteArray) (i : Nat), ∀ y ∈ linesOf k s i, y.2.size ≤ s.size
  | 0, _, _, y, h => absurd h List.not_mem_nil
  | k + 1, s, i, y, h => by
    rw [linesOf_succ] at h
    split at h
    · rename_i hc
      rcases List.mem_cons.1 h with rfl | h
      · have h1 := cut_size _ hc
        rw [List.length_drop, ← size_eq_length] at h1
        show (Lib.cut (s.data.toList.drop i) [13, 10]).1.length ≤ _
        omega
      · split at h
        · exact absurd h List.not_mem_nil
        · exact linesOf_size k s _ y h
    · exact absurd h List.not_mem_nil
theorem lines_calls (s : ByteArray) (w : World) :
    Calls Tryd.prog 35 #[.string s] w fun e w' => e = .returned (.func (.func 60) #[] #[.pointer (some ⟨w.heap.size, 0, none⟩)]) ∧ w' = w.alloc (.cells #[.string s] 9) := by
  go_enter Tryd.func35, Tryd.ntmps35
  go_wp2
  go_ret
  exact ⟨rfl, rfl⟩
def encL (x : Nat × ByteArray) : Array Value := #[.int .i64 (x.1 : Int), .string x.2]
theorem TabOk.lies {w A C : World} {K : Nat → Prop} (hw : TabOk w) (hA : Below w.heap.size w A) (hK : ∀ k, k < w.heap.size → K k) (h : Lies K A C) : TabOk C := by
  have hc : ∀ {p : Addr} {v : Value}, w.cell? p = some v → C.cell? p = some v := fun {p v} hp =>
    h.cell (hK p.block (World.block_lt_of_cell? w p hp)) ((hA.cell (p := p) (World.block_lt_of_cell? w p hp)).trans hp)
  refine ⟨hc hw.c0, hc hw.c1, hc hw.c2, hc hw.c3, hc hw.c4, hc hw.c5, ?_⟩
  obtain ⟨m, hm⟩ := hw.mx
  exact ⟨m, hc hm⟩
set_option maxRecDepth 100000 in
set_option maxHeartbeats 2000000 in
theorem lines_own (n : Nat) (hn : 1 ≤ n) (Bs : Nat) (s : ByteArray) (hs : s.size < 4294967281) (w : World) (hG : TabOk w) (W0 : World) (hw0 : Below w.heap.size w W0) (hc0 : Boxed W0 Bs 9 (.string s)) :
    SeqO Fence.wide n Tryd.prog 60 #[.pointer (some ⟨Bs, 0, none⟩)] encL (fun k => k < w.heap.size ∨ k = Bs) (fun _ => False) (fun ys => ys = linesOf (s.size + 1) s 0) (fun pre => pre <+: linesOf (s.size + 1) s 0) W0 := by
  intro l J Jx W hW hJ hJx hY h0
  have hw1 : Below w.heap.size w W := hw0.trans (hW.mono hw0.size)
  have hc : Boxed W Bs 9 (.string s) := (hW.block _ hc0.lt).trans hc0
  have hBs := hc.lt
  have hwsz := hw1.size
  clear hW hc0 hw0
  refine callsIn_of_wp Tryd.func60 rfl trivial ?_ rfl
  simp only [Tryd.ntmps60, List.size_toArray, List.length_cons, List.length_nil, Nat.reduceAdd, Nat.reduceSub, Array.replicate_succ, Array.replicate_zero, List.push_toArray, List.append_toArray, List.nil_append, List.cons_append]
  gi_wp2
  gi_loopw [3] (fun v3 wr => ∃ (i k : Nat) (pre : List (Nat × ByteArray)) (g : Option Nat), v3 = .int .i64 i ∧ i ≤ s.size ∧ s.size - i < k ∧ pre.length ≤ i ∧ Aside0 (linesOf (s.size + 1) s 0 = pre ++ linesOf k s i) ∧ Aside0 (J pre g wr) ∧ Aside0 (∀ q, g = some q → W.heap.size ≤ q) ∧ Aside0 (Lies (fun k => k < w.heap.size ∨ k = Bs) W wr))
    (fun v3 _ => s.size - (intOf v3).toNat)
  case atStart => exact ⟨0, s.size + 1, [], none, rfl, Nat.zero_le _, by omega, Nat.le_refl _, ⟨rfl⟩, ⟨h0⟩, ⟨fun q e => by cases e⟩, ⟨Lies.refl _ _⟩⟩
  case round =>
    obtain ⟨i, k, pre, g, rfl, hi, hk, hp, hE, hJs, hgq, hnx⟩ := hrel
    have hcx := (hnx.out.box (.inr rfl) hc).cell
    obtain ⟨m, hm⟩ := (hG.lies hw1 (fun k hk => .inl hk) hnx.out).mx
    have HC := Aside0.mk (Tryd.strings_Cut (s.extract i s.size) (⟨#[13, 10]⟩ : ByteArray) m wr (by
      have := extract_from s i
      have h2 := congrArg List.length this
      rw [← size_eq_length, List.length_drop, ← size_eq_length] at h2
      omega) hm)
    obtain ⟨k, rfl⟩ : ∃ q, k = q + 1 := ⟨k - 1, by omega⟩
    rw [extract_from, show (⟨#[13, 10]⟩ : ByteArray).data.toList = [13, 10] from rfl] at HC
    have hcs := cut_size (s.data.toList.drop i)
    have HE := Aside0.mk hE.out
    rw [linesOf_succ k s i] at HE
    rw [List.length_drop, ← size_eq_length] at hcs
    clear hE hm
    obtain ⟨c, hcut⟩ : ∃ c, Lib.cut (s.data.toList.drop i) [13, 10] = c := ⟨_, rfl⟩
    rw [hcut] at HC hcs HE
    clear hcut
    obtain ⟨a, b, ok⟩ := c
    dsimp only at HC HE hcs
    have hdr : ∀ q : Nat, wr.grownBy (wr.drewN q) none := fun q => ⟨rfl, rfl, rfl, Nat.le_refl _, fun _ _ _ => rfl⟩
    have HDR := Aside0.mk hdr
    clear hdr
    cases ok with
    | false =>
      rw [if_neg (by simp), List.append_nil] at HE
      gi_wp2
      refine ⟨trivial, ?_⟩
      refine (callsIn_wide.2 HC.out).mono ?_
      rintro e w1 ⟨rfl, q, rfl⟩
      have hJ1 := Aside0.mk (hJ.step hJs.out (HDR.out q))
      gi_wp2
      refine ⟨fun _ h => (by cases h), ?_⟩
      gi_wp2
      refine bodyPost_ret (results_none rfl _ _ _) rfl ?_
      exact ⟨⟨_, rfl⟩, .inl ⟨_, g, rfl, by rw [HE.out]; exact hJ1.out⟩⟩
    | true =>
      rw [if_pos rfl] at HE
      gi_wp2
      refine ⟨trivial, ?_⟩
      refine (callsIn_wide.2 HC.out).mono ?_
      rintro e w1 ⟨rfl, q, rfl⟩
      have hJ1 : J pre g (wr.drewN q) := hJ.step hJs.out (HDR.out q)
      have HL := Aside0.mk (hnx.out.trans (Lies.grown (HDR.out q) (fun _ e => by cases e)))
      have HP := Aside0.mk (show (pre ++ [((i, ⟨a.toArray⟩) : Nat × ByteArray)]) <+: linesOf (s.size + 1) s 0 by rw [HE.out]; exact ⟨_, by rw [List.append_assoc]; rfl⟩)
      obtain ⟨fn, tmps, assign, body, hy, hR⟩ := hY (n - 1) pre (i, ⟨a.toArray⟩) g (wr.drewN q) hJ1 HP.out
      dsimp only [encL] at hy
      have HR := Aside0.mk hR
      have HLS := Aside0.mk (fun (g' : Option Nat) (W3 : World) (h : Spares (fun k => W.heap.size ≤ k ∨ (k < w.heap.size ∨ k = Bs)) g g' (wr.drewN q) W3) =>
        show Lies (fun k => k < w.heap.size ∨ k = Bs) W W3 from HL.out.trans (h.lies (fun k hk _ => ⟨.inr hk, fun e => by have := hgq.out k e.symm; rcases hk with h | h <;> omega⟩)))
      have HGS := Aside0.mk (fun (g' : Option Nat) (W3 : World) (h : Spares (fun k => W.heap.size ≤ k ∨ (k < w.heap.size ∨ k = Bs)) g g' (wr.drewN q) W3) =>
        show ∀ q, g' = some q → W.heap.size ≤ q from h.ge HL.out.size hgq.out)
      have e0 : (⟨a.toArray⟩ : ByteArray).size = a.length := rfl
      have hcs := hcs trivial
      clear hJ1 hR HL hgq
      cases a with
      | nil =>
        have HE2 := Aside0.mk (show linesOf (s.size + 1) s 0 = pre ++ [((i, ⟨([] : List UInt8).toArray⟩) : Nat × ByteArray)] by rw [HE.out]; rfl)
        gi_wp2
        refine HR.out.mono ?_
        rintro e W3 ⟨g', hsp, (⟨rfl, hJ3⟩ | ⟨rfl, hJx3⟩)⟩
        · gi_wp2
          refine bodyPost_ret (results_none rfl _ _ _) rfl ?_
          exact ⟨⟨_, rfl⟩, .inl ⟨_, g', rfl, by rw [HE2.out]; exact hJ3⟩⟩
        · gi_wp2
          refine bodyPost_ret (results_none rfl _ _ _) rfl ?_
          exact ⟨⟨_, rfl⟩, .inr ⟨_, g', HP.out, hJx3⟩⟩
      | cons c a =>
        have HE2 := Aside0.mk (show linesOf (s.size + 1) s 0 = (pre ++ [((i, ⟨(c :: a).toArray⟩) : Nat × ByteArray)]) ++ linesOf k s (i + (a.length + 3)) by rw [HE.out, List.append_assoc]; rfl)
        have hcs2 : a.length + 3 ≤ s.size - i := by simp only [List.length_cons] at hcs; omega
        have hne : ((⟨(c :: a).toArray⟩ : ByteArray).toList == ([] : List UInt8)) = false := by rw [ByteArray.toList_eq]; rfl
        have hne2 : ((⟨(c :: a).toArray⟩ : ByteArray).toList = ([] : List UInt8)) = False := by rw [ByteArray.toList_eq]; simp
        gi_wp2
        refine HR.out.mono ?_
        rintro e W3 ⟨g', hsp, (⟨rfl, hJ3⟩ | ⟨rfl, hJx3⟩)⟩
        · have HJ3 := Aside0.mk hJ3
          have HS3 := Aside0.mk hsp
          clear hJ3 hsp
          have hcx3 := ((HLS.out g' W3 HS3.out).box (.inr rfl) hc).cell
          gi_wp2
          go_roundw
          case rel => exact ⟨i + (a.length + 3), k, _, g', congrArg (Value.int IntKind.i64) (by omega), by omega, by omega, by rw [List.length_append]; simp only [List.length_cons, List.length_nil]; omega, HE2, HJ3, ⟨HGS.out g' W3 HS3.out⟩, ⟨HLS.out g' W3 HS3.out⟩⟩
          case measure => simp [intOf]; omega
        · gi_wp2
          refine bodyPost_ret (results_none rfl _ _ _) rfl ?_
          exact ⟨⟨_, rfl⟩, .inr ⟨_, g', HP.out, hJx3⟩⟩
end Go.Proofs.YtdkecmjoenfjdaaDoorH
end
section
namespace Go.Proofs.YtdkecmjoenfjdaaDoorH
open Go
theorem stepR_scope {P : Program} {b : Frame} {a : Act} {k : List Item} {cs : List Frame} {w : World} {c : Code} : step P (lone (b.atR a (.code (.scope c) :: k)) cs w) = .next (lone (b.atR a (.code c :: .inScope c :: k)) cs w) :=
  step_lone_go (by simp [stepG, stepG.exec, Frame.atR])
theorem stepR_inScope {P : Program} {b : Frame} {a : Act} {k : List Item} {cs : List Frame} {w : World} {c : Code} : step P (lone (b.atR a (.inScope c :: k)) cs w) = .next (lone (b.atR a k) cs w) :=
  step_lone_go (by simp [stepG, stepG.exec, Frame.atR])
theorem wpIn_scope_straight {F : Fence} {n : Nat} {P : Program} {Q : Exit → Act → World → Prop} {a : Act} {w : World} {c : Code} (h : c.wpIn F n P (Exit.noGoto Q) a w) : (Code.scope c).wpIn F n P Q a w := by
  intro b k cs hro hb hr
  have h0 : (lone (b.atR a (.code (.scope c) :: k)) cs w).fenced P F := fenced_calm hb hr rfl
  obtain ⟨e, a₁, w₁, hq, harr⟩ := h b (.inScope c :: k) cs hro hb hr
  cases e with
  | normal => exact ⟨.normal, a₁, w₁, hq, .head h0 stepR_scope (StepsIn.trans harr (.one (fenced_calm hb hr rfl) stepR_inScope))⟩
  | exit id =>
    have hx : exitTo id (.inScope c :: k) = exitTo id k := by simp [exitTo]
    exact ⟨.exit id, a₁, w₁, hq, fun k' hk => .head h0 stepR_scope (harr.1 k' (by rw [hx]; exact hk)),
      fun hr' hk => let ⟨k₁, h1, h2⟩ := harr.2 hr' (by rw [hx]; exact hk); ⟨k₁, h1, .head h0 stepR_scope h2⟩⟩
  | goto l => exact hq.elim
  | ret => exact ⟨_, a₁, w₁, hq, .of_steps (.one h0 stepR_scope) (show ArrivesIn _ _ _ _ k _ _ _ _ from harr)⟩
  | panic ch => exact ⟨_, a₁, w₁, hq, .of_steps (.one h0 stepR_scope) (show ArrivesIn _ _ _ _ k _ _ _ _ from harr)⟩
  | outgrown => exact ⟨_, a₁, w₁, hq, .of_steps (.one h0 stepR_scope) (show ArrivesIn _ _ _ _ k _ _ _ _ from harr)⟩
end Go.Proofs.YtdkecmjoenfjdaaDoorH
end
section
namespace Go.Proofs.YtdkecmjoenfjdaaDoorH
open Go Go.RowKit Go.Proofs.YtdkecmjoenfjdaaDoorW.PrintWords Go.Proofs.YtdkecmjoenfjdaaDoorW.PrintLast Go.Proofs.YtdkecmjoenfjdaaDoorW.PrintMore
def Halted (p : Prop) : Prop := p
theorem halt {p : Prop} (h : Halted p) : p := h
theorem unhalt {p : Prop} (h : p) : Halted p := h
theorem in_append {F : Fence} {n : Nat} {P : Program} {ops : Array Oper} {rest : List Oper} {o : Oper} {a : Act} {Q : Exit → Act → World → Prop} {W : World} (base : Nat) (hgd : o.guard = none) (s x : Operand) (t e : TypeId) (z : Value) (size bytes : Nat)
    (ho : o.op = .call { callee := .builtin .append, args := #[s, x], argTypes := #[t, t] })
    (ht : P.underlying t = some (.slice e)) (hinfo : (P.info? e).map (fun i => (i.zero, i.size, i.bytes)) = some (some z, size, bytes)) (hz : z.cells.size = size) (hs0 : 0 < size) (hb0 : 0 < bytes)
    (v : Value) (k : Nat) (xs ys : List Value) (hs : a.eval s = v) (hx : a.eval x = .slice (some ⟨W.heap.size, 0, none⟩) 1 1) (hys : ys.length = size) (h1 : ∀ u ∈ ys, u.oneCell' = true)
    (HO : W.ownsRow base e size v k xs) (hbase : base ≤ W.heap.size) (hl : (k + 1) * bytes ≤ 140737488355328)
    (h : ∀ v1 w1, w1.ownsRow base e size v1 (k + 1) (xs ++ ys) → W.grownBy w1 v.ownBlock → (v1.ownBlock = v.ownBlock ∨ ∃ b, v1.ownBlock = some b ∧ W.heap.size ≤ b) → wpListIn F n P ops Q rest (a.put o.dst v1) w1) :
    wpListIn F n P ops Q (o :: rest) a (W.alloc (.cells ys.toArray e)) := by
  obtain ⟨i0, hi, hzz⟩ := Option.map_eq_some_iff.1 hinfo
  simp only [Prod.mk.injEq] at hzz
  obtain ⟨hz0, hz1, hz2⟩ := hzz
  have hlen : k + 1 ≤ 140737488355328 := Nat.le_trans (Nat.le_mul_of_pos_right _ hb0) hl
  refine wpListIn_plain hgd fun K hK' => ?_
  obtain ⟨v1, w1, hr, hown, hg, _, hat⟩ := run_append_own_at (P := P) (W.alloc (.cells ys.toArray e)) base t o.type e i0 z size bytes ht hi hz0 hz1 hz2 hz hs0 v k xs (HO.alloc _) ⟨W.heap.size, 0, none⟩ 1 1 ys (by rw [hys]; simp)
    (by simpa using World.news_of_block (cs := ys.toArray) (t := e) (fr := (0, 0)) (heap_alloc_new W (.cells ys.toArray e))) h1 (by simp only [maxLen]; omega) hl (by simp; omega)
  unfold Oper.wpIn
  refine ⟨?_, ?_⟩
  · simp [Oper.about, ho, resolve, Target.leads, Sem.run_pure]
  · rw [Oper.semAt_plain F _ _ (by rw [ho]; intro c hc'; cases hc')]
    simp [execOp, ho, resolve, invoke, builtin, hs, hx, hr, Result.andThen]
    refine hK' _ _ (h v1 w1 hown (World.grownBy.trans (World.grownBy_alloc W _ _) hg) ?_)
    rcases hat with hat | hat
    · exact .inl hat
    · exact .inr ⟨_, hat, by simp⟩
theorem row_of_owns {α : Type} (d : Kd α) (enc : α → List Value) {e : Nat} {w : World} {base : Nat} {v : Value} {xs : List α} (hl : ∀ x, (enc x).length = d.sz) (hM : ∀ ok x, d.M w base ok x (enc x))
    (h : w.ownsRow base e d.sz v xs.length (xs.flatMap enc)) : d.R e w base (fun _ => True) v xs := by
  refine ⟨fun _ _ => trivial, xs.flatMap enc, h, ?_⟩
  clear h
  have key : ∀ (l r : List α) (inner : List Value), Reps (d.M w base (fun k => True ∧ some k ≠ v.ownBlock)) d.sz l inner → Reps (d.M w base (fun k => True ∧ some k ≠ v.ownBlock)) d.sz (l ++ r) (inner ++ r.flatMap enc) := by
    intro l r
    induction r generalizing l with
    | nil => intro inner h; simpa using h
    | cons x r ih =>
      intro inner h
      have := ih (l ++ [x]) (inner ++ enc x) (h.snoc (hM _ x) (hl x))
      simpa using this
  have := key [] xs [] (Reps.none _ _)
  simpa using this
theorem owns_slice {w : World} {base : Nat} {e : TypeId} {size : Nat} {v : Value} {k : Nat} {xs : List Value} (h : w.ownsRow base e size v k xs) : ∃ (a : Option Addr) (n c : Nat), v = .slice a n c := by
  rcases h.2 with ⟨rfl, _⟩ | ⟨g, cap, cur, rfl, _⟩
  · exact ⟨_, _, _, rfl⟩
  · exact ⟨_, _, _, rfl⟩
theorem closed {W : World} {n₀ b D : Nat} {t e : TypeId} {size : Nat} {v : Value} {k : Nat} {xs : List Value} (hv : Boxed W b t v) (hte : t ≠ e) (hrow : W.ownsRow n₀ e size v k xs) (hb : n₀ ≤ b) (hD : n₀ ≤ D) (hK : W.heap[D]? = some (.deferred (some []))) :
    (W.setCell ⟨b, 0, none⟩ v).heap[D]? = some (.deferred (some [])) ∧ Boxed ((W.setCell ⟨b, 0, none⟩ v).putObj D (.deferred none)) b t v ∧ ((W.setCell ⟨b, 0, none⟩ v).putObj D (.deferred none)).ownsRow n₀ e size v k xs ∧ Below n₀ W ((W.setCell ⟨b, 0, none⟩ v).putObj D (.deferred none)) := by
  have hne : D ≠ b := by
    rintro rfl
    have := hK.symm.trans hv
    cases this
  have h1 : (W.setCell ⟨b, 0, none⟩ v).heap[D]? = some (.deferred (some [])) := (Below.heap_setCell W _ _ D hne).trans hK
  have hlt := (Array.getElem?_eq_some_iff.1 hK).1
  refine ⟨h1, (hv.set v).kept (grownBy_putObj' _ _ _) (fun h => hne (by cases h; rfl)), ownsRow_putObj (hrow.kept (grownBy_setCell' W b v) (.inr (hv.not_row hte hrow).symm)) _ h1 rfl, ?_⟩
  exact ((Below.refl n₀ W).setCell (p := ⟨b, 0, none⟩) hb v).grown (grownBy_putObj' _ _ _) (Nat.le_trans hD (Nat.le_trans (Nat.le_of_lt hlt) (grownBy_setCell' W b v).size)) (fun j ej => by cases ej; exact hD)
end Go.Proofs.YtdkecmjoenfjdaaDoorH
end
section
namespace Go.Proofs.YtdkecmjoenfjdaaDoorH
open Go.RowKit Go.Proofs.YtdkecmjoenfjdaaDoorW.PrintWords Go.Proofs.YtdkecmjoenfjdaaDoorW.PrintLast Go.Proofs.YtdkecmjoenfjdaaDoorW.PrintMore Go.Proofs.YtdkecmjoenfjdaaDoor.Pr
theorem ref02_token (k : Nat) (c : Int) (h0 : 0 ≤ c) (h1 : c ≤ 255) : catchpitref02_token.f (k + 1) c = some (tokI c) := by
  have e : catchpitref02_token.f (k + 1) c = catchpitref02_token.f 1 c := by
    unfold catchpitref02_token.f
    simp only [catchpitref02_token.j0]
  rw [e]
  obtain ⟨n, rfl⟩ := Int.eq_ofNat_of_zero_le h0
  have : ∀ n : Fin 256, catchpitref02_token.f 1 (n.val : Int) = some (tokI (n.val : Int)) := by decide +kernel
  exact this ⟨n, by omega⟩
theorem ref02_byte (c : Int) (h0 : 0 ≤ c) (h1 : c ≤ 255) : catchpitref02_Byte.f c = some (textI c) := by
  obtain ⟨n, rfl⟩ := Int.eq_ofNat_of_zero_le h0
  have : ∀ n : Fin 256, catchpitref02_Byte.f (n.val : Int) = some (textI (n.val : Int)) := by decide +kernel
  exact this ⟨n, by omega⟩
theorem ref02_blank (c : Int) : catchpitref02_blank.f c = some (blankI c) := by
  unfold catchpitref02_blank.f blankI
  by_cases h : c = 32
  · rw [if_pos h]; subst h; rfl
  · rw [if_neg h, beq_eq_false_iff_ne.2 h, Bool.false_or]
theorem ref02_Token_l0 (s : ByteArray) (hs : s.size ≤ 140737488355328) (d : Nat) : ∀ (k i : Nat), i ≤ s.size → s.size - i = d → d + 1 < k →
    catchpitref02_Token.l0 k s (i : Int) = some (allFrom tokI s i && decide (0 < s.size)) := by
  induction d with
  | zero =>
    intro k i h1 hd hk
    obtain ⟨k, rfl⟩ : ∃ m, k = m + 1 := ⟨k - 1, by omega⟩
    simp only [catchpitref02_Token.l0]
    rw [if_neg (by omega), allFrom_end _ _ _ (by omega), Bool.true_and]
    congr 1
    rw [decide_eq_decide]
    omega
  | succ d ih =>
    intro k i h1 hd hk
    obtain ⟨k, rfl⟩ : ∃ m, k = m + 2 := ⟨k - 2, by omega⟩
    have hb := bt_range s i
    rw [catchpitref02_Token.l0, if_pos (by omega), if_pos (by omega), ref02_token k _ hb.1 hb.2, Option.bind_some, allFrom_step tokI s i (by omega)]
    cases hp : tokI (bt s i) with
    | true =>
      rw [if_pos rfl, wrap_up (by omega) (show (i : Int) < (s.size : Int) by omega) hs, Bool.true_and]
      exact ih (k + 1) (i + 1) (by omega) (by omega) (by omega)
    | false => rfl
theorem ref02_Token (s : ByteArray) (hs : s.size ≤ 140737488355328) : Ev (fun k => catchpitref02_Token.f k s) (tokB s) := by
  refine ⟨s.size + 2, fun k hk => ?_⟩
  show catchpitref02_Token.l0 k s 0 = _
  have := ref02_Token_l0 s hs s.size k 0 (by omega) (by omega) (by omega)
  rw [show ((0 : Nat) : Int) = 0 from rfl] at this
  rw [this, allFrom_zero]
  unfold tokB
  rw [isEmpty_size, Bool.and_comm]
  congr 2
  rw [← decide_not, decide_eq_decide]
  omega
theorem ref02_Text_l0 (s : ByteArray) (hs : s.size ≤ 140737488355328) (d : Nat) : ∀ (k i : Nat), i ≤ s.size → s.size - i = d → d < k →
    catchpitref02_Text.l0 k s (i : Int) = some (allFrom textI s i) := by
  induction d with
  | zero =>
    intro k i h1 hd hk
    obtain ⟨k, rfl⟩ : ∃ m, k = m + 1 := ⟨k - 1, by omega⟩
    simp only [catchpitref02_Text.l0]
    rw [if_neg (by omega), allFrom_end _ _ _ (by omega)]
  | succ d ih =>
    intro k i h1 hd hk
    obtain ⟨k, rfl⟩ : ∃ m, k = m + 1 := ⟨k - 1, by omega⟩
    have hb := bt_range s i
    rw [catchpitref02_Text.l0, if_pos (by omega), if_pos (by omega), ref02_byte _ hb.1 hb.2, Option.bind_some, allFrom_step textI s i (by omega)]
    cases hp : textI (bt s i) with
    | true =>
      rw [if_pos rfl, wrap_up (by omega) (show (i : Int) < (s.size : Int) by omega) hs, Bool.true_and]
      exact ih k (i + 1) (by omega) (by omega) (by omega)
    | false => rfl
theorem ref02_Text (s : ByteArray) (hs : s.size ≤ 140737488355328) : Ev (fun k => catchpitref02_Text.f k s) (allB textI s) := by
  refine ⟨s.size + 1, fun k hk => ?_⟩
  show catchpitref02_Text.l0 k s 0 = _
  have := ref02_Text_l0 s hs s.size k 0 (by omega) (by omega) (by omega)
  rw [show ((0 : Nat) : Int) = 0 from rfl] at this
  rw [this, allFrom_zero]
theorem ref02_Value (s : ByteArray) (hs : s.size ≤ 140737488355328) : Ev (fun k => catchpitref02_Value.f k s) (allB textI s && (decide (trimS s = s))) := by
  obtain ⟨K, hK⟩ := ref02_Text s hs
  refine ⟨K, fun k hk => ?_⟩
  show catchpitref02_Value.f k s = _
  have hk' := hK k hk
  simp only at hk'
  rw [catchpitref02_Value.f, hk', Option.bind_some]
  cases ht : allB textI s with
  | false => rfl
  | true =>
    rw [if_pos rfl, Bool.true_and]
    by_cases h0 : s.size = 0
    · rw [if_pos (by omega)]
      have hl : s.data.toList = [] := by rw [size_eq_length] at h0; exact List.length_eq_zero_iff.1 h0
      congr 1
      symm
      rw [decide_eq_true_eq]
      apply bytes_ext
      rw [trimS_data, hl]; rfl
    · rw [if_neg (by omega), if_pos (by omega), ref02_blank, Option.bind_some]
      obtain ⟨c, t, hl, hb⟩ := first_of s (by omega)
      obtain ⟨t2, c2, hl2, hb2⟩ := last_of s (by omega)
      have hE : (trimS s = s) ↔ trimL s.data.toList = s.data.toList := ⟨fun h => by rw [← trimS_data, h], fun h => bytes_ext (by rw [trimS_data, h])⟩
      rw [hb, blankU_int]
      cases hp : blankU c with
      | true =>
        rw [if_pos rfl]
        congr 1
        symm
        rw [decide_eq_false_iff_not, hE]
        intro h
        rw [trimL_eq', hl, List.dropWhile_cons_of_pos hp] at h
        have h1 := rtrim_length blankU (t.dropWhile blankU)
        have h2 := (List.dropWhile_sublist blankU (l := t)).length_le
        have h3 := congrArg List.length h
        simp at h3
        omega
      | false =>
        rw [if_neg (by simp), wrap_down (by omega) (by omega), if_pos (by omega), if_pos (by omega), ref02_blank, Option.bind_some, hb2, blankU_int]
        congr 1
        rw [Bool.eq_iff_iff, decide_eq_true_eq, hE]
        have hdw : s.data.toList.dropWhile blankU = s.data.toList := by rw [hl]; exact List.dropWhile_cons_of_neg (by simp [hp])
        rw [trimL_eq', hdw]
        constructor
        · intro h
          rw [hl2, rtrim_snoc, if_neg (by simpa using h)]
        · intro h
          cases hp2 : blankU c2 with
          | false => rfl
          | true =>
            rw [hl2, rtrim_snoc, if_pos hp2] at h
            have h1 := rtrim_length blankU t2
            have h3 := congrArg List.length h
            simp at h3
            omega
end Go.Proofs.YtdkecmjoenfjdaaDoorH
end
section
namespace Go.Proofs.YtdkecmjoenfjdaaDoorH
open Go.RowKit Go.Proofs.YtdkecmjoenfjdaaDoorW.PrintWords Go.Proofs.YtdkecmjoenfjdaaDoorW.PrintLast Go.Proofs.YtdkecmjoenfjdaaDoorW.PrintMore Go.Proofs.YtdkecmjoenfjdaaDoor.Pr
def colon (s : ByteArray) : Nat := s.data.toList.findIdx (· == 58)
theorem indexByte_findIdx : ∀ (l : List UInt8) (c : UInt8), Lib.indexByte l c = if l.findIdx (· == c) < l.length then ((l.findIdx (· == c) : Nat) : Int) else -1
  | [], c => rfl
  | b :: l, c => by
    unfold Lib.indexByte
    rw [List.findIdx_cons, indexByte_findIdx l c]
    cases h : b == c with
    | true => simp
    | false =>
      simp only [cond_false, List.length_cons]
      by_cases h2 : l.findIdx (· == c) < l.length
      · have e1 : (((List.findIdx (· == c) l : Nat) : Int) == -1) = false := by rw [beq_eq_false_iff_ne]; omega
        have e2 : List.findIdx (· == c) l + 1 < l.length + 1 := by omega
        simp only [if_pos h2, if_pos e2, e1, Bool.false_eq_true, if_false]
        omega
      · have e2 : ¬ List.findIdx (· == c) l + 1 < l.length + 1 := by omega
        simp only [if_neg h2, if_neg e2]
        rfl
theorem cut_colon (s : ByteArray) : Lib.cut s.data.toList (⟨#[58]⟩ : ByteArray).data.toList =
    if colon s < s.size then (s.data.toList.take (colon s), s.data.toList.drop (colon s + 1), true) else (s.data.toList, [], false) := by
  have e : Lib.index s.data.toList (⟨#[58]⟩ : ByteArray).data.toList = if colon s < s.size then ((colon s : Nat) : Int) else -1 := by
    rw [size_eq_length]
    exact (Lib.index_one _ _).trans (indexByte_findIdx _ _)
  unfold Lib.cut
  rw [e]
  by_cases h : colon s < s.size
  · rw [if_pos h, if_pos h, if_pos (by omega)]
    rfl
  · rw [if_neg h, if_neg h, if_neg (by omega)]
def nameOf (s : ByteArray) : ByteArray := s.extract 0 (colon s)
def restOf (s : ByteArray) : ByteArray := s.extract (colon s + 1) s.size
def lineB (s : ByteArray) : Bool := decide (colon s < s.size) && (tokB (nameOf s) && allB textI (restOf s))
def parseF (s : ByteArray) : ByteArray := if lineB s then nameOf s else ⟨#[]⟩
def parseV (s : ByteArray) : ByteArray := if lineB s then trimS (restOf s) else ⟨#[]⟩
theorem nameOf_size (s : ByteArray) : (nameOf s).size ≤ s.size := by
  rw [size_eq_length, size_eq_length, nameOf, extract_to, List.length_take]
  omega
theorem restOf_size (s : ByteArray) : (restOf s).size ≤ s.size := by
  rw [size_eq_length, size_eq_length, restOf, extract_from, List.length_drop]
  omega
theorem all_dropWhile {p q : UInt8 → Bool} (hpq : ∀ x, p x = true → q x = true) : ∀ l : List UInt8, (l.dropWhile p).all q = l.all q
  | [] => rfl
  | a :: l => by
    cases h : p a with
    | true => rw [List.dropWhile_cons_of_pos h, all_dropWhile hpq l, List.all_cons, hpq a h, Bool.true_and]
    | false => rw [List.dropWhile_cons_of_neg (by simp [h])]
theorem all_rtrim {p q : UInt8 → Bool} (hpq : ∀ x, p x = true → q x = true) (l : List UInt8) : (rtrim p l).all q = l.all q := by
  unfold rtrim
  rw [List.all_reverse, all_dropWhile hpq, List.all_reverse]
theorem text_trim (s : ByteArray) : allB textI (trimS s) = allB textI s := by
  have h : ∀ x : UInt8, blankU x = true → textI (x.toNat : Int) = true := fun x hx => by
    unfold textI
    rw [blankU_int, hx, Bool.true_or]
  unfold allB
  rw [trimS_data, trimL_eq, all_dropWhile h, all_rtrim h]
def valueB (s : ByteArray) : Bool := allB textI s && decide (trimS s = s)
def rightB (a b : ByteArray) : Bool := tokB a && valueB b
theorem value_trim (s : ByteArray) : valueB (trimS s) = allB textI s := by
  unfold valueB
  rw [text_trim, trimS_idem]
  simp
theorem octet_Value_eq (a : ByteArray) (hs : a.size ≤ 140737488355328) : octet_Value.f a = some (valueB a) := by
  unfold octet_Value.f octet_Text.f octet_Trim.f
  simp only [if_pos hs, Option.bind_some]
  unfold valueB
  cases allB textI a with
  | false => rfl
  | true => rw [if_pos rfl, beq_toList, Bool.true_and]
theorem field_Right_eq (a b : ByteArray) (ha : a.size ≤ 140737488355328) (hb : b.size ≤ 140737488355328) : field_Right.f a b = some (rightB a b) := by
  unfold field_Right.f octet_Token.f
  rw [if_pos ha, Option.bind_some, octet_Value_eq b hb, Option.bind_some]
  unfold rightB
  cases tokB a with
  | false => rfl
  | true => rw [if_pos rfl, Bool.true_and]
theorem field_Parse_eq (s : ByteArray) (hs : s.size < 4294967281) : field_Parse.f s = some (parseF s, parseV s, if lineB s then 0 else 2) := by
  unfold field_Parse.f strings_Cut.f octet_Trim.f
  rw [if_pos hs, Option.bind_some, cut_colon]
  by_cases hc : colon s < s.size
  · rw [if_pos hc]
    have e1 : (⟨(s.data.toList.take (colon s)).toArray⟩ : ByteArray) = nameOf s := bytes_ext (by rw [nameOf, extract_to])
    have e2 : (⟨(s.data.toList.drop (colon s + 1)).toArray⟩ : ByteArray) = restOf s := bytes_ext (by rw [restOf, extract_from])
    have h1 := nameOf_size s
    have h2 := restOf_size s
    have h3 := trimS_size (restOf s)
    simp only [e1, e2]
    rw [if_pos (by omega), Option.bind_some, if_pos trivial, field_Right_eq _ _ (by omega) (by omega), Option.bind_some]
    have hl : lineB s = rightB (nameOf s) (trimS (restOf s)) := by
      unfold lineB rightB
      rw [value_trim, decide_eq_true hc, Bool.true_and]
    unfold parseF parseV
    rw [hl]
    cases rightB (nameOf s) (trimS (restOf s)) <;> rfl
  · rw [if_neg hc]
    have hl : lineB s = false := by
      unfold lineB
      rw [decide_eq_false hc, Bool.false_and]
    have h0 : (⟨#[]⟩ : ByteArray).size ≤ 140737488355328 := by decide
    unfold parseF parseV
    rw [hl]
    simp only [if_pos h0, Option.bind_some, Bool.false_eq_true, if_false]
theorem ref05_Right (a b : ByteArray) (ha : a.size ≤ 140737488355328) (hb : b.size ≤ 140737488355328) : Ev (fun k => catchpitref05_Right.f k a b) (rightB a b) := by
  obtain ⟨K1, h1⟩ := ref02_Token a ha
  obtain ⟨K2, h2⟩ := ref02_Value b hb
  refine ⟨K1 + K2, fun k hk => ?_⟩
  have h1 := h1 k (by omega)
  have h2 := h2 k (by omega)
  simp only at h1 h2
  show catchpitref05_Right.f k a b = _
  rw [catchpitref05_Right.f, h1, Option.bind_some, h2]
  unfold rightB valueB
  cases tokB a <;> rfl
end Go.Proofs.YtdkecmjoenfjdaaDoorH
end
section
namespace Go.Proofs.YtdkecmjoenfjdaaDoorH
open Go.RowKit Go.Proofs.YtdkecmjoenfjdaaDoorW.PrintWords Go.Proofs.YtdkecmjoenfjdaaDoorW.PrintLast Go.Proofs.YtdkecmjoenfjdaaDoorW.PrintMore Go.Proofs.YtdkecmjoenfjdaaDoor.Pr
def putS (a b : ByteArray) : ByteArray := if b.size = 0 then a ++ (⟨#[58]⟩ : ByteArray) else (a ++ (⟨#[58, 32]⟩ : ByteArray)) ++ b
theorem data_append (a b : ByteArray) : (a ++ b).data.toList = a.data.toList ++ b.data.toList := append_data a b
theorem putS_size (a b : ByteArray) : (putS a b).size ≤ a.size + 2 + b.size := by
  unfold putS
  by_cases h : b.size = 0
  · rw [if_pos h, ByteArray.size_append, show (⟨#[58]⟩ : ByteArray).size = 1 from rfl]
    omega
  · rw [if_neg h, ByteArray.size_append, ByteArray.size_append, show (⟨#[58, 32]⟩ : ByteArray).size = 2 from rfl]
    omega
theorem nil_size (b : ByteArray) : (b.toList = ([] : List UInt8)) ↔ b.size = 0 := by
  rw [ByteArray.toList_eq, size_eq_length]
  exact List.length_eq_zero_iff.symm
theorem ref05_Put (a b : ByteArray) (ha : a.size ≤ 140737488351232) (hb : b.size ≤ 140737488351232) : catchpitref05_Put.f a b = some (putS a b) := by
  unfold catchpitref05_Put.f putS
  by_cases h : b.size = 0
  · rw [if_pos (by omega), if_pos (by omega), if_pos h]
  · rw [if_neg (by omega), if_pos (by omega), if_pos (by rw [ByteArray.size_append, show (⟨#[58, 32]⟩ : ByteArray).size = 2 from rfl]; omega), if_neg h]
theorem field_Put_eq (a b : ByteArray) (ha : a.size ≤ 140737488351232) (hb : b.size ≤ 140737488351232) : field_Put.f a b = some (if rightB a b then putS a b else ⟨#[]⟩, if rightB a b then 0 else 1) := by
  unfold field_Put.f putS
  rw [field_Right_eq a b (by omega) (by omega), Option.bind_some]
  cases rightB a b with
  | false => rfl
  | true =>
    rw [if_pos rfl, if_pos rfl, if_pos rfl]
    by_cases h : b.size = 0
    · rw [if_pos ((nil_size b).2 h), if_pos (by omega), if_pos h]
    · rw [if_neg (fun e => h ((nil_size b).1 e)), if_pos (by omega), if_pos (by rw [ByteArray.size_append, show (⟨#[58, 32]⟩ : ByteArray).size = 2 from rfl]; omega), if_neg h]
end Go.Proofs.YtdkecmjoenfjdaaDoorH
end
section
namespace Go.Proofs.YtdkecmjoenfjdaaDoorH
open Go.RowKit Go.Proofs.YtdkecmjoenfjdaaDoorW.PrintWords Go.Proofs.YtdkecmjoenfjdaaDoorW.PrintLast Go.Proofs.YtdkecmjoenfjdaaDoorW.PrintMore Go.Proofs.YtdkecmjoenfjdaaDoor.Pr
theorem take_one {α : Type} (l : List α) (d : α) (k : Nat) (h : k < l.length) : l.take (k + 1) = l.take k ++ [l.getD k d] := by
  rw [List.take_succ_eq_append_getElem h]
  simp [List.getD_eq_getElem?_getD, h]
theorem mem_getD {α : Type} (l : List α) (d : α) (k : Nat) (h : k < l.length) : l.getD k d ∈ l := by
  rw [List.getD_eq_getElem?_getD, List.getElem?_eq_getElem h]
  exact List.getElem_mem h
end Go.Proofs.YtdkecmjoenfjdaaDoorH
end
section
namespace Go.Proofs.YtdkecmjoenfjdaaDoorH
open Go.RowKit Go.Proofs.YtdkecmjoenfjdaaDoorW.PrintWords Go.Proofs.YtdkecmjoenfjdaaDoorW.PrintLast Go.Proofs.YtdkecmjoenfjdaaDoorW.PrintMore Go.Proofs.YtdkecmjoenfjdaaDoor.Pr
def alikeB (a b : ByteArray) : Bool := decide (smallS a = smallS b)
def isB (x : S24) (n : ByteArray) : Bool := alikeB x.f0 n
def fitF (l : List S24) : Bool := l.all fun x => decide (x.f0.size ≤ 140737488355328)
def getL (l : List S24) (n : ByteArray) : List ByteArray := (l.filter fun x => isB x n).map fun x => x.f1
def field_Get.f (l0 : List S24) (a1 : ByteArray) : Option (List ByteArray) := if (decide (l0.length < 8796093022208) && fitF l0 && decide (a1.size ≤ 140737488355328)) = true then some (getL l0 a1) else none
def fitS (l : List ByteArray) : Bool := l.all fun x => decide (x.size ≤ 140737488355328)
def namedB (names : List ByteArray) (x : S24) : Bool := names.any fun n => isB x n
def withoutL (l : List S24) (names : List ByteArray) : List S24 := l.filter fun x => !(namedB names x)
def field_Without.f (l0 : List S24) (l1 : List ByteArray) : Option (List S24) := if (decide (l0.length < 4398046511104) && fitF l0 && decide (l1.length < 8796093022208) && fitS l1) = true then some (withoutL l0 l1) else none
end Go.Proofs.YtdkecmjoenfjdaaDoorH
end
section
namespace Go.Proofs.YtdkecmjoenfjdaaDoor.Pr
open Go.RowKit Go.Proofs.YtdkecmjoenfjdaaDoorH Go.Proofs.YtdkecmjoenfjdaaDoorW.PrintWords Go.Proofs.YtdkecmjoenfjdaaDoorW.PrintLast Go.Proofs.YtdkecmjoenfjdaaDoorW.PrintMore
attribute [local go_sem] max2_int min2_int max_two min_two max_three min_three max_four min_four   -- for this text's walks alone
set_option linter.unusedVariables false
set_option linter.unusedSimpArgs false
attribute [local go_sem high] eqA24
def catchpitref05_Get.l0 : Nat → List (S24) → ByteArray → List ByteArray → Int → Option (List ByteArray)
  | 0, _, _, _, _ => none
  | k + 1, x0, x1, x5, x6 => if x6 < (x0.length : Int) then (if 0 ≤ x6 then ((catchpitref05_Is.f k ((rd_T24 x0 x6).f0) ((rd_T24 x0 x6).f1) x1).bind fun t184 => (if t184 = true then (if x5.length < 8796093022208 then (catchpitref05_Get.l0 k x0 x1 (x5 ++ [(rd_T24 x0 x6).f1]) (wrap64 (x6 + 1))) else (none)) else (catchpitref05_Get.l0 k x0 x1 x5 (wrap64 (x6 + 1))))) else (none)) else (some x5)
def catchpitref05_Get.f (k : Nat) (l0 : List (S24)) (a1 : ByteArray) : Option (List ByteArray) := catchpitref05_Get.l0 k l0 a1 ([] : List ByteArray) 0
theorem catchpitref05_Get.mono_l : ∀ k, (∀ y0 y1 y2 y3, LeO (catchpitref05_Get.l0 k y0 y1 y2 y3) (catchpitref05_Get.l0 (k + 1) y0 y1 y2 y3))
  | 0 => fun _ _ _ _ r h => by simp [catchpitref05_Get.l0] at h
  | k + 1 => by
    have ih0 := catchpitref05_Get.mono_l k
    · intro y0 y1 y2 y3
      unfold catchpitref05_Get.l0
      repeat' first
      | (with_reducible exact ih0 _ _ _ _)
      | (with_reducible exact catchpitref05_Is.mono _ _ _ _)
      | (with_reducible exact LeO.refl _)
      | (with_reducible exact LeO.none _)
      | (with_reducible refine LeO.ite ?_ ?_)
      | (with_reducible refine LeO.bind ?_ (fun _ => ?_))
      | exact ih0 _ _ _ _
      | exact catchpitref05_Is.mono _ _ _ _
      | exact LeO.none _
      | refine LeO.ite ?_ ?_
      | refine LeO.bind ?_ (fun _ => ?_)
theorem catchpitref05_Get.mono : ∀ a0 a1 k, LeO (catchpitref05_Get.f k a0 a1) (catchpitref05_Get.f (k + 1) a0 a1) := by
  intro a0 a1 k
  have ih0 := catchpitref05_Get.mono_l k
  unfold catchpitref05_Get.f
  repeat' first
      | (with_reducible exact ih0 _ _ _ _)
      | (with_reducible exact catchpitref05_Is.mono _ _ _ _)
      | (with_reducible exact LeO.refl _)
      | (with_reducible exact LeO.none _)
      | (with_reducible refine LeO.ite ?_ ?_)
      | (with_reducible refine LeO.bind ?_ (fun _ => ?_))
      | exact ih0 _ _ _ _
      | exact catchpitref05_Is.mono _ _ _ _
      | exact LeO.none _
      | refine LeO.ite ?_ ?_
      | refine LeO.bind ?_ (fun _ => ?_)
def catchpitref05_Fields.l0 : Nat → List (S24) → List (S24) → Int → Option (Bool)
  | 0, _, _, _ => none
  | k + 1, x0, x1, x5 => if x5 < (x0.length : Int) then (if 0 ≤ x5 then (if x5 < (x1.length : Int) then (if (!((((rd_T24 x0 x5).f0).toList) == (((rd_T24 x1 x5).f0).toList)) || (!((((rd_T24 x0 x5).f1).toList) == (((rd_T24 x1 x5).f1).toList)))) = true then (some false) else (catchpitref05_Fields.l0 k x0 x1 (wrap64 (x5 + 1)))) else (none)) else (none)) else (some true)
def catchpitref05_Fields.f (k : Nat) (l0 : List (S24)) (l1 : List (S24)) : Option (Bool) := if (l0.length : Int) = (l1.length : Int) then (catchpitref05_Fields.l0 k l0 l1 0) else (some false)
theorem catchpitref05_Fields.mono_l : ∀ k, (∀ y0 y1 y2, LeO (catchpitref05_Fields.l0 k y0 y1 y2) (catchpitref05_Fields.l0 (k + 1) y0 y1 y2))
  | 0 => fun _ _ _ r h => by simp [catchpitref05_Fields.l0] at h
  | k + 1 => by
    have ih0 := catchpitref05_Fields.mono_l k
    · intro y0 y1 y2
      unfold catchpitref05_Fields.l0
      repeat' first
      | (with_reducible exact ih0 _ _ _)
      | (with_reducible exact LeO.refl _)
      | (with_reducible exact LeO.none _)
      | (with_reducible refine LeO.ite ?_ ?_)
      | (with_reducible refine LeO.bind ?_ (fun _ => ?_))
      | exact ih0 _ _ _
      | exact LeO.none _
      | refine LeO.ite ?_ ?_
      | refine LeO.bind ?_ (fun _ => ?_)
theorem catchpitref05_Fields.mono : ∀ a0 a1 k, LeO (catchpitref05_Fields.f k a0 a1) (catchpitref05_Fields.f (k + 1) a0 a1) := by
  intro a0 a1 k
  have ih0 := catchpitref05_Fields.mono_l k
  unfold catchpitref05_Fields.f
  repeat' first
      | (with_reducible exact ih0 _ _ _)
      | (with_reducible exact LeO.refl _)
      | (with_reducible exact LeO.none _)
      | (with_reducible refine LeO.ite ?_ ?_)
      | (with_reducible refine LeO.bind ?_ (fun _ => ?_))
      | exact ih0 _ _ _
      | exact LeO.none _
      | refine LeO.ite ?_ ?_
      | refine LeO.bind ?_ (fun _ => ?_)
end Go.Proofs.YtdkecmjoenfjdaaDoor.Pr
end
section
namespace Go.Proofs.YtdkecmjoenfjdaaDoor.Pr
open Go.RowKit Go.Proofs.YtdkecmjoenfjdaaDoorH Go.Proofs.YtdkecmjoenfjdaaDoorW.PrintWords Go.Proofs.YtdkecmjoenfjdaaDoorW.PrintLast Go.Proofs.YtdkecmjoenfjdaaDoorW.PrintMore
attribute [local go_sem] max2_int min2_int max_two min_two max_three min_three max_four min_four   -- for this text's walks alone
set_option linter.unusedVariables false
set_option linter.unusedSimpArgs false
mutual
def catchpitref05_Without.l0 : Nat → List (S24) → List ByteArray → List (S24) → Int → Option ((List (S24)))
  | 0, _, _, _, _ => none
  | k + 1, x0, x1, x5, x6 => if x6 < (x0.length : Int) then (if 0 ≤ x6 then (if x5.length < 4398046511104 then (catchpitref05_Without.l1 k x0 x1 (x5 ++ [(⟨(rd_T24 x0 x6).f0, (rd_T24 x0 x6).f1⟩ : S24)]) x6 0) else (none)) else (none)) else (some x5)
def catchpitref05_Without.l1 : Nat → List (S24) → List ByteArray → List (S24) → Int → Int → Option ((List (S24)))
  | 0, _, _, _, _, _ => none
  | k + 1, x0, x1, x5, x6, x7 => if x7 < (x1.length : Int) then (if 0 ≤ x6 then (if x6 < (x0.length : Int) then (if 0 ≤ x7 then ((catchpitref05_Is.f k ((rd_T24 x0 x6).f0) ((rd_T24 x0 x6).f1) (rdOf ByteArray.empty x1 x7)).bind fun t197 => (if t197 = true then (if 0 ≤ (wrap64 ((x5.length : Int) - 1)) then (if (wrap64 ((x5.length : Int) - 1)) ≤ (x5.length : Int) then (catchpitref05_Without.l0 k x0 x1 (x5.take ((wrap64 ((x5.length : Int) - 1)) : Int).toNat) (wrap64 (x6 + 1))) else (none)) else (none)) else (catchpitref05_Without.l1 k x0 x1 x5 x6 (wrap64 (x7 + 1))))) else (none)) else (none)) else (none)) else (catchpitref05_Without.l0 k x0 x1 x5 (wrap64 (x6 + 1)))
end
def catchpitref05_Without.f (k : Nat) (l0 : List (S24)) (l1 : List ByteArray) : Option ((List (S24))) := catchpitref05_Without.l0 k l0 l1 ([] : List (S24)) 0
theorem catchpitref05_Without.mono_l : ∀ k, (∀ y0 y1 y2 y3, LeO (catchpitref05_Without.l0 k y0 y1 y2 y3) (catchpitref05_Without.l0 (k + 1) y0 y1 y2 y3)) ∧ (∀ y0 y1 y2 y3 y4, LeO (catchpitref05_Without.l1 k y0 y1 y2 y3 y4) (catchpitref05_Without.l1 (k + 1) y0 y1 y2 y3 y4))
  | 0 => ⟨fun _ _ _ _ r h => by simp [catchpitref05_Without.l0] at h, fun _ _ _ _ _ r h => by simp [catchpitref05_Without.l1] at h⟩
  | k + 1 => by
    obtain ⟨ih0, ih1⟩ := catchpitref05_Without.mono_l k
    refine ⟨?_, ?_⟩
    · intro y0 y1 y2 y3
      unfold catchpitref05_Without.l0
      repeat' first
      | (with_reducible exact ih0 _ _ _ _)
      | (with_reducible exact ih1 _ _ _ _ _)
      | (with_reducible exact catchpitref05_Is.mono _ _ _ _)
      | (with_reducible exact LeO.refl _)
      | (with_reducible exact LeO.none _)
      | (with_reducible refine LeO.ite ?_ ?_)
      | (with_reducible refine LeO.bind ?_ (fun _ => ?_))
      | exact ih0 _ _ _ _
      | exact ih1 _ _ _ _ _
      | exact catchpitref05_Is.mono _ _ _ _
      | exact LeO.none _
      | refine LeO.ite ?_ ?_
      | refine LeO.bind ?_ (fun _ => ?_)
    · intro y0 y1 y2 y3 y4
      unfold catchpitref05_Without.l1
      repeat' first
      | (with_reducible exact ih0 _ _ _ _)
      | (with_reducible exact ih1 _ _ _ _ _)
      | (with_reducible exact catchpitref05_Is.mono _ _ _ _)
      | (with_reducible exact LeO.refl _)
      | (with_reducible exact LeO.none _)
      | (with_reducible refine LeO.ite ?_ ?_)
      | (with_reducible refine LeO.bind ?_ (fun _ => ?_))
      | exact ih0 _ _ _ _
      | exact ih1 _ _ _ _ _
      | exact catchpitref05_Is.mono _ _ _ _
      | exact LeO.none _
      | refine LeO.ite ?_ ?_
      | refine LeO.bind ?_ (fun _ => ?_)
theorem catchpitref05_Without.mono : ∀ a0 a1 k, LeO (catchpitref05_Without.f k a0 a1) (catchpitref05_Without.f (k + 1) a0 a1) := by
  intro a0 a1 k
  obtain ⟨ih0, ih1⟩ := catchpitref05_Without.mono_l k
  unfold catchpitref05_Without.f
  repeat' first
      | (with_reducible exact ih0 _ _ _ _)
      | (with_reducible exact ih1 _ _ _ _ _)
      | (with_reducible exact catchpitref05_Is.mono _ _ _ _)
      | (with_reducible exact LeO.refl _)
      | (with_reducible exact LeO.none _)
      | (with_reducible refine LeO.ite ?_ ?_)
      | (with_reducible refine LeO.bind ?_ (fun _ => ?_))
      | exact ih0 _ _ _ _
      | exact ih1 _ _ _ _ _
      | exact catchpitref05_Is.mono _ _ _ _
      | exact LeO.none _
      | refine LeO.ite ?_ ?_
      | refine LeO.bind ?_ (fun _ => ?_)
end Go.Proofs.YtdkecmjoenfjdaaDoor.Pr
end
section
namespace Go.Proofs.YtdkecmjoenfjdaaDoorH
open Go.RowKit Go.Proofs.YtdkecmjoenfjdaaDoorW.PrintWords Go.Proofs.YtdkecmjoenfjdaaDoorW.PrintLast Go.Proofs.YtdkecmjoenfjdaaDoorW.PrintMore Go.Proofs.YtdkecmjoenfjdaaDoor.Pr
abbrev Fld := S24
def Small1 (l : List Fld) : Prop := ∀ y ∈ l, y.f0.size ≤ 140737488351232 ∧ y.f1.size ≤ 140737488351232
def sumF (l : List Fld) : Nat := (l.map fun x => x.f0.size + x.f1.size + 1).sum
theorem sumF_cons (x : Fld) (l : List Fld) : sumF (x :: l) = (x.f0.size + x.f1.size + 1) + sumF l := by simp [sumF]
theorem sumF_length : ∀ l : List Fld, l.length ≤ sumF l
  | [] => Nat.le_refl _
  | x :: l => by
    have := sumF_length l
    rw [sumF_cons, List.length_cons]
    omega
theorem sumF_at : ∀ (l : List Fld) (x : Fld), x ∈ l → x.f0.size + x.f1.size + 1 ≤ sumF l
  | y :: l, x, h => by
    rw [sumF_cons]
    rcases List.mem_cons.1 h with rfl | h
    · omega
    · have := sumF_at l x h
      omega
theorem drop_cons {α : Type} (l : List α) (d : α) (i : Nat) (h : i < l.length) : l.drop i = l.getD i d :: l.drop (i + 1) := by
  rw [List.drop_eq_getElem_cons h]
  simp [List.getD_eq_getElem?_getD, h]
theorem rd_nat (l : List Fld) (i : Nat) : rd_T24 l (i : Int) = l.getD i z24 := by
  unfold rd_T24
  rw [Int.toNat_natCast]
theorem wrapN (a b : Nat) (h : a + b < 4611686018427387904) : wrap64 ((a : Int) + (b : Int)) = ((a + b : Nat) : Int) := by unfold wrap64; omega
theorem wrapS (a : Nat) (h : a < 4611686018427387904) : wrap64 ((a : Int) + 1) = ((a + 1 : Nat) : Int) := by unfold wrap64; omega
def bigN : Nat := 600000000000000
theorem ref05_Great_l0 (l : List Fld) (hl : Small1 l) (hn : l.length ≤ 140737488351232) (d : Nat) : ∀ (i n k : Nat), i ≤ l.length → l.length - i = d → d < k → n ≤ bigN →
    catchpitref05_Great.l0 k l (n : Int) (i : Int) = some (decide (2000 < n + sumF (l.drop i))) := by
  induction d with
  | zero =>
    intro i n k h1 h2 h3 h4
    obtain ⟨k, rfl⟩ : ∃ m, k = m + 1 := ⟨k - 1, by omega⟩
    rw [catchpitref05_Great.l0, if_neg (by omega), List.drop_eq_nil_of_le (by omega)]
    congr 1
    rw [decide_eq_decide]
    show _ ↔ 2000 < n + 0
    omega
  | succ d ih =>
    intro i n k h1 h2 h3 h4
    obtain ⟨k, rfl⟩ : ∃ m, k = m + 1 := ⟨k - 1, by omega⟩
    have hi : i < l.length := by omega
    rw [catchpitref05_Great.l0, if_pos (by omega), drop_cons l z24 i hi, sumF_cons, rd_nat]
    have hx := hl _ (mem_getD l z24 i hi)
    generalize l.getD i z24 = x at *
    by_cases h : n ≤ 2000
    · rw [if_pos (by omega), if_pos (by omega)]
      have a1 : i + 1 ≤ l.length := hi
      have a2 : l.length - (i + 1) = d := by omega
      have a3 : d < k := by omega
      have a4 : n + x.f0.size + x.f1.size + 1 ≤ bigN := by unfold bigN at *; omega
      have b1 : n + x.f0.size < 4611686018427387904 := by omega
      have b2 : n + x.f0.size + x.f1.size < 4611686018427387904 := by omega
      have b4 : i < 4611686018427387904 := by omega
      have e1 := wrapN n x.f0.size b1
      have e2 := wrapN (n + x.f0.size) x.f1.size b2
      have e3 := wrapS (n + x.f0.size + x.f1.size) b2
      have e4 := wrapS i b4
      have hh := ih (i + 1) (n + x.f0.size + x.f1.size + 1) k a1 a2 a3 a4
      rw [e1, e2, e3, e4, hh]
      clear e1 e2 e3 e4 hh ih
      congr 1
      rw [decide_eq_decide]
      omega
    · rw [if_neg (by omega)]
      congr 1
      rw [decide_eq_decide]
      omega
theorem ref05_Great (l : List Fld) (hl : Small1 l) (hn : l.length ≤ 140737488351232) : Ev (fun k => catchpitref05_Great.f k l) (decide (2000 < sumF l)) := by
  refine ⟨l.length + 1, fun k hk => ?_⟩
  have := ref05_Great_l0 l hl hn l.length 0 0 k (Nat.zero_le _) rfl (by omega) (Nat.zero_le _)
  rw [Nat.zero_add, List.drop_zero] at this
  exact this
theorem ev_all {α : Type} (F : Nat → α → Option Bool) (p : α → Bool) : ∀ l : List α, (∀ x ∈ l, Ev (fun k => F k x) (p x)) → ∃ K, ∀ k, K ≤ k → ∀ x ∈ l, F k x = some (p x)
  | [], _ => ⟨0, fun _ _ x hx => by cases hx⟩
  | a :: l, h => by
    obtain ⟨K1, h1⟩ := h a (List.mem_cons_self ..)
    obtain ⟨K2, h2⟩ := ev_all F p l (fun x hx => h x (List.mem_cons_of_mem _ hx))
    refine ⟨K1 + K2, fun k hk x hx => ?_⟩
    rcases List.mem_cons.1 hx with rfl | hx
    · exact h1 k (by omega)
    · exact h2 k (by omega) x hx
end Go.Proofs.YtdkecmjoenfjdaaDoorH
end
section
namespace Go.Proofs.YtdkecmjoenfjdaaDoor.Pr
open Go.RowKit Go.Proofs.YtdkecmjoenfjdaaDoorH Go.Proofs.YtdkecmjoenfjdaaDoorW.PrintWords Go.Proofs.YtdkecmjoenfjdaaDoorW.PrintLast Go.Proofs.YtdkecmjoenfjdaaDoorW.PrintMore
attribute [local go_sem] max2_int min2_int max_two min_two max_three min_three max_four min_four   -- for this text's walks alone
set_option linter.unusedVariables false
set_option linter.unusedSimpArgs false
def catchpitlaw05_FieldJoins.j0 : Nat → List (S24) → List (S24) → ByteArray → Bool → Option (Bool)
  | 0, _, _, _, _ => none
  | k + 1, x0, x1, x2, x20 => if x20 = true then (some true) else ((some (([] : List (S24)) : List (S24))).bind fun y231 => (if y231.length + x0.length < 4398046511104 then ((some (y231 ++ x0 : List (S24))).bind fun y234 => (if y234.length + x1.length < 4398046511104 then ((some (y234 ++ x1 : List (S24))).bind fun y237 => ((field_Get.f y237 x2).bind fun t240 => ((some (([] : List ByteArray) : List ByteArray)).bind fun y243 => ((field_Get.f x0 x2).bind fun t246 => (if y243.length + t246.length < 8796093022208 then ((some (y243 ++ t246 : List ByteArray)).bind fun y249 => ((field_Get.f x1 x2).bind fun t252 => (if y249.length + t252.length < 8796093022208 then ((catchpitref05_Texts.f k t240 (y249 ++ t252)).bind fun t258 => (if t258 = true then ((field_Without.f y237 (([x2] : List ByteArray))).bind fun t262 => ((some (([] : List (S24)) : List (S24))).bind fun y265 => ((field_Without.f x0 (([x2] : List ByteArray))).bind fun t271 => (if y265.length + t271.length < 4398046511104 then ((some (y265 ++ t271 : List (S24))).bind fun y274 => ((field_Without.f x1 (([x2] : List ByteArray))).bind fun t280 => (if y274.length + t280.length < 4398046511104 then ((catchpitref05_Fields.f k t262 (y274 ++ t280)).bind fun t286 => (some t286)) else (none)))) else (none))))) else (some false))) else (none)))) else (none)))))) else (none))) else (none)))
def catchpitlaw05_FieldJoins.f (k : Nat) (l0 : List (S24)) (l1 : List (S24)) (a2 : ByteArray) : Option (Bool) := (catchpitlaw05_wakes.f).bind fun t228 => (if t228 = true then ((catchpitref05_Great.f k l0).bind fun t229 => (if t229 = true then (catchpitlaw05_FieldJoins.j0 k l0 l1 a2 true) else ((catchpitref05_Great.f k l1).bind fun t230 => (if t230 = true then (catchpitlaw05_FieldJoins.j0 k l0 l1 a2 true) else (catchpitlaw05_FieldJoins.j0 k l0 l1 a2 (decide ((a2.size : Int) > 300))))))) else (some false))
theorem catchpitlaw05_FieldJoins.mono_l : ∀ k, (∀ y0 y1 y2 y3, LeO (catchpitlaw05_FieldJoins.j0 k y0 y1 y2 y3) (catchpitlaw05_FieldJoins.j0 (k + 1) y0 y1 y2 y3))
  | 0 => fun _ _ _ _ r h => by simp [catchpitlaw05_FieldJoins.j0] at h
  | k + 1 => by
    have ih0 := catchpitlaw05_FieldJoins.mono_l k
    · intro y0 y1 y2 y3
      unfold catchpitlaw05_FieldJoins.j0
      repeat' first
      | (with_reducible exact ih0 _ _ _ _)
      | (with_reducible exact catchpitref05_Fields.mono _ _ _)
      | (with_reducible exact catchpitref05_Great.mono _ _)
      | (with_reducible exact catchpitref05_Texts.mono _ _ _)
      | (with_reducible exact LeO.refl _)
      | (with_reducible exact LeO.none _)
      | (with_reducible refine LeO.ite ?_ ?_)
      | (with_reducible refine LeO.bind ?_ (fun _ => ?_))
      | exact ih0 _ _ _ _
      | exact catchpitref05_Fields.mono _ _ _
      | exact catchpitref05_Great.mono _ _
      | exact catchpitref05_Texts.mono _ _ _
      | exact LeO.none _
      | refine LeO.ite ?_ ?_
      | refine LeO.bind ?_ (fun _ => ?_)
theorem catchpitlaw05_FieldJoins.mono : ∀ a0 a1 a2 k, LeO (catchpitlaw05_FieldJoins.f k a0 a1 a2) (catchpitlaw05_FieldJoins.f (k + 1) a0 a1 a2) := by
  intro a0 a1 a2 k
  have ih0 := catchpitlaw05_FieldJoins.mono_l k
  unfold catchpitlaw05_FieldJoins.f
  repeat' first
      | (with_reducible exact ih0 _ _ _ _)
      | (with_reducible exact catchpitref05_Fields.mono _ _ _)
      | (with_reducible exact catchpitref05_Great.mono _ _)
      | (with_reducible exact catchpitref05_Texts.mono _ _ _)
      | (with_reducible exact LeO.refl _)
      | (with_reducible exact LeO.none _)
      | (with_reducible refine LeO.ite ?_ ?_)
      | (with_reducible refine LeO.bind ?_ (fun _ => ?_))
      | exact ih0 _ _ _ _
      | exact catchpitref05_Fields.mono _ _ _
      | exact catchpitref05_Great.mono _ _
      | exact catchpitref05_Texts.mono _ _ _
      | exact LeO.none _
      | refine LeO.ite ?_ ?_
      | refine LeO.bind ?_ (fun _ => ?_)
def block_next.f (a0 : Int) (a1 : Int) : Option (Int × Bool) := (some (([a1] : List Int) : List Int)).bind fun y287 => (if a0 = 0 then (if a1 = 13 then (some (4, true)) else ((octet_Token.f (strOfNums y287)).bind fun t290 => (some (1, t290)))) else (if a0 = 1 then (if a1 = 58 then (some (2, true)) else ((octet_Token.f (strOfNums y287)).bind fun t291 => (some (1, t291)))) else (if a0 = 2 then (if a1 = 13 then (some (3, true)) else ((octet_Text.f (strOfNums y287)).bind fun t292 => (some (2, t292)))) else (if a0 = 3 then (some (0, (a1 == 10))) else (if a0 = 4 then (some (5, (a1 == 10))) else (some (5, false)))))))
set_option maxHeartbeats 8000000 in
set_option maxRecDepth 100000 in
theorem block_next.calls (a0 : Int) (a1 : Int) (r1 : Int) (r2 : Bool) (w : World) (hG : TabOk w) (h : block_next.f a0 a1 = some (r1, r2)) :
    Calls Tryd.prog 57 #[.int .i64 a0, .int .u8 a1] w fun e w' => e = .returned (.tuple #[.int .i64 r1, .bool r2]) ∧ Below w.heap.size w w' := by
  have HB := Aside0.mk (Below.refl w.heap.size w)
  have H : ((some (([a1] : List Int) : List Int)).bind fun y287 => (if a0 = 0 then (if a1 = 13 then (some (4, true)) else ((octet_Token.f (strOfNums y287)).bind fun t290 => (some (1, t290)))) else (if a0 = 1 then (if a1 = 58 then (some (2, true)) else ((octet_Token.f (strOfNums y287)).bind fun t291 => (some (1, t291)))) else (if a0 = 2 then (if a1 = 13 then (some (3, true)) else ((octet_Text.f (strOfNums y287)).bind fun t292 => (some (2, t292)))) else (if a0 = 3 then (some (0, (a1 == 10))) else (if a0 = 4 then (some (5, (a1 == 10))) else (some (5, false)))))))) = some (r1, r2) := h
  clear h
  obtain ⟨y287, hy287⟩ : ∃ y_ : List Int, y_ = (([a1] : List Int)) := ⟨_, rfl⟩
  replace H : (if a0 = 0 then (if a1 = 13 then (some (4, true)) else ((octet_Token.f (strOfNums y287)).bind fun t290 => (some (1, t290)))) else (if a0 = 1 then (if a1 = 58 then (some (2, true)) else ((octet_Token.f (strOfNums y287)).bind fun t291 => (some (1, t291)))) else (if a0 = 2 then (if a1 = 13 then (some (3, true)) else ((octet_Text.f (strOfNums y287)).bind fun t292 => (some (2, t292)))) else (if a0 = 3 then (some (0, (a1 == 10))) else (if a0 = 4 then (some (5, (a1 == 10))) else (some (5, false))))))) = some (r1, r2) := by first | (rw [hy287]; with_reducible exact H) | (have H2_ := (Option.bind_some _ _).symm.trans H; rw [hy287]; with_reducible exact H2_) | (have H2_ := (Option.bind_some _ _).symm.trans H; with_reducible exact H2_) | with_reducible exact H | (rw [hy287]; exact H) | exact H
  have Ny287 := Aside0.mk hy287
  clear hy287
  by_cases c3 : a0 = 0
  · rw [if_pos c3] at H
    have c3b0 : (a0 == 0) = true := beq_iff_eq.mpr c3
    have c3b1 : (a0 != 0) = false := bne_eq_false_iff_eq.mpr c3
    clear c3
    by_cases c4 : a1 = 13
    · rw [if_pos c4] at H
      have c4b0 : (a1 == 13) = true := beq_iff_eq.mpr c4
      have c4b1 : (a1 != 13) = false := bne_eq_false_iff_eq.mpr c4
      clear c4
      simp only [Option.some.injEq, Prod.mk.injEq] at H
      obtain ⟨rfl, rfl⟩ := H
      go_enter Tryd.func57, Tryd.ntmps57
      go_wp2_with (first | ((with_reducible refine gate_dst (N := 8) rfl ?_); refine Kd.R_lit (Kd.int .u8) _ 5 ?hg (N := 8) ?hd (xs := ([a1] : List Int)) (inner := [.int .u8 a1]) (ok := fun _ => True) (okp := fun _ => True) ?hr ?hp (fun _ hk => hk) trivial (Below.refl _ _) (Nat.le_refl _) (by simp) ?_; (case hd => rfl); (case hg => rfl); (case hr => first | (go_simp; done) | (go_simp; rfl)); (case hp => exact (Reps.one (show Kd.M (Kd.int .u8) _ _ _ a1 [.int .u8 a1] from rfl) (Reps.none _ _))); intro v288 w5 ho6 hb hg_ hnew_; clear hg_ hnew_; (first | rw [← Ny287.out] at ho6 | (simp only [Int.reduceToNat] at ho6; rw [← Ny287.out] at ho6)); have n0_ := Aside0.mk (Kd.R_lower ho6 (below_size (by repeat (first | (with_reducible first | exact HB.out | apply below_alloc | apply pw_below_drewN | apply below_drew1) | exact HB.out)))); have n1_ := Aside0.mk (below_step (by repeat (first | (with_reducible first | exact HB.out | apply below_alloc | apply pw_below_drewN | apply below_drew1) | exact HB.out)) hb); clear HB; have HO289 := n0_; have HB := n1_; clear n0_ n1_; clear hb ho6; have hcv7 := own_string (P := Tryd.prog) Tryd.underlying80 Tryd.underlying5 Tryd.underlying9 (Kd.own_of_R HO289.out)))
      go_ret2
      exact ⟨by first | rfl | (simp [errW_none, errW_some] <;> rfl) | (simp [*, errW_none, errW_some] <;> rfl), by repeat (first | (with_reducible first | exact HB.out | apply below_alloc | apply pw_below_drewN | apply below_drew1) | exact HB.out)⟩
    · rw [if_neg c4] at H
      have c4b0 : (a1 == 13) = false := beq_eq_false_iff_ne.mpr c4
      have c4b1 : (a1 != 13) = true := bne_iff_ne.mpr c4
      replace H := Option.bind_eq_some_iff.mp H
      obtain ⟨t290, A80, H⟩ := H
      replace H : (some (1, t290)) = some (r1, r2) := H
      have A8 := Aside0.mk A80
      clear A80
      simp only [Option.some.injEq, Prod.mk.injEq] at H
      obtain ⟨rfl, rfl⟩ := H
      go_enter Tryd.func57, Tryd.ntmps57
      go_wp2_with (first | ((with_reducible refine gate_dst (N := 8) rfl ?_); refine Kd.R_lit (Kd.int .u8) _ 5 ?hg (N := 8) ?hd (xs := ([a1] : List Int)) (inner := [.int .u8 a1]) (ok := fun _ => True) (okp := fun _ => True) ?hr ?hp (fun _ hk => hk) trivial (Below.refl _ _) (Nat.le_refl _) (by simp) ?_; (case hd => rfl); (case hg => rfl); (case hr => first | (go_simp; done) | (go_simp; rfl)); (case hp => exact (Reps.one (show Kd.M (Kd.int .u8) _ _ _ a1 [.int .u8 a1] from rfl) (Reps.none _ _))); intro v288 w9 ho10 hb hg_ hnew_; clear hg_ hnew_; (first | rw [← Ny287.out] at ho10 | (simp only [Int.reduceToNat] at ho10; rw [← Ny287.out] at ho10)); have n0_ := Aside0.mk (Kd.R_lower ho10 (below_size (by repeat (first | (with_reducible first | exact HB.out | apply below_alloc | apply pw_below_drewN | apply below_drew1) | exact HB.out)))); have n1_ := Aside0.mk (below_step (by repeat (first | (with_reducible first | exact HB.out | apply below_alloc | apply pw_below_drewN | apply below_drew1) | exact HB.out)) hb); clear HB; have HO289 := n0_; have HB := n1_; clear n0_ n1_; clear hb ho10; have hcv11 := own_string (P := Tryd.prog) Tryd.underlying80 Tryd.underlying5 Tryd.underlying9 (Kd.own_of_R HO289.out)) | ((with_reducible refine gate_callee (f := 43) rfl ?_); refine goesL_ (some 16) rfl rfl Tryd.func43 (by kernel_rfl) rfl #[.string (strOfNums y287)] rfl (by (try simp only [List.map_toArray, List.map_cons, List.map_nil]); first | done | rfl | (simp only [List.length_drop, List.length_take]; rfl)) ?_; (with_reducible refine (octet_Token.calls (strOfNums y287) t290 _ ?side1 A8.out).mono ?_); (case side1 => first | exact hG | exact TabOk.drewN hG _ | exact TabOk.drewN (TabOk.drewN hG _) _ | exact TabOk.below hG (by repeat (first | (with_reducible first | exact HB.out | apply below_alloc | apply pw_below_drewN | apply below_drew1) | exact HB.out))); rintro e w12 ⟨rfl, hb⟩; refine ⟨_, rfl, ?_⟩; have n0_ := Aside0.mk (Kd.R_below (by (with_reducible repeat (first | apply Kd.R_alloc | apply Kd.R_drewN | apply Kd.R_drew)); exact HO289.out) hb); have n1_ := Aside0.mk (below_step (by repeat (first | (with_reducible first | exact HB.out | apply below_alloc | apply pw_below_drewN | apply below_drew1) | exact HB.out)) hb); clear HO289; clear HB; have HO289 := n0_; have HB := n1_; clear n0_ n1_; (try clear hb); (try clear hb2); (try clear hk); (try clear hi)))
      go_ret2
      exact ⟨by first | rfl | (simp [errW_none, errW_some] <;> rfl) | (simp [*, errW_none, errW_some] <;> rfl), by repeat (first | (with_reducible first | exact HB.out | apply below_alloc | apply pw_below_drewN | apply below_drew1) | exact HB.out)⟩
  · rw [if_neg c3] at H
    have c3b0 : (a0 == 0) = false := beq_eq_false_iff_ne.mpr c3
    have c3b1 : (a0 != 0) = true := bne_iff_ne.mpr c3
    by_cases c13 : a0 = 1
    · rw [if_pos c13] at H
      have c13b0 : (a0 == 1) = true := beq_iff_eq.mpr c13
      have c13b1 : (a0 != 1) = false := bne_eq_false_iff_eq.mpr c13
      clear c13
      by_cases c14 : a1 = 58
      · rw [if_pos c14] at H
        have c14b0 : (a1 == 58) = true := beq_iff_eq.mpr c14
        have c14b1 : (a1 != 58) = false := bne_eq_false_iff_eq.mpr c14
        clear c14
        simp only [Option.some.injEq, Prod.mk.injEq] at H
        obtain ⟨rfl, rfl⟩ := H
        go_enter Tryd.func57, Tryd.ntmps57
        go_wp2_with (first | ((with_reducible refine gate_dst (N := 8) rfl ?_); refine Kd.R_lit (Kd.int .u8) _ 5 ?hg (N := 8) ?hd (xs := ([a1] : List Int)) (inner := [.int .u8 a1]) (ok := fun _ => True) (okp := fun _ => True) ?hr ?hp (fun _ hk => hk) trivial (Below.refl _ _) (Nat.le_refl _) (by simp) ?_; (case hd => rfl); (case hg => rfl); (case hr => first | (go_simp; done) | (go_simp; rfl)); (case hp => exact (Reps.one (show Kd.M (Kd.int .u8) _ _ _ a1 [.int .u8 a1] from rfl) (Reps.none _ _))); intro v288 w15 ho16 hb hg_ hnew_; clear hg_ hnew_; (first | rw [← Ny287.out] at ho16 | (simp only [Int.reduceToNat] at ho16; rw [← Ny287.out] at ho16)); have n0_ := Aside0.mk (Kd.R_lower ho16 (below_size (by repeat (first | (with_reducible first | exact HB.out | apply below_alloc | apply pw_below_drewN | apply below_drew1) | exact HB.out)))); have n1_ := Aside0.mk (below_step (by repeat (first | (with_reducible first | exact HB.out | apply below_alloc | apply pw_below_drewN | apply below_drew1) | exact HB.out)) hb); clear HB; have HO289 := n0_; have HB := n1_; clear n0_ n1_; clear hb ho16; have hcv17 := own_string (P := Tryd.prog) Tryd.underlying80 Tryd.underlying5 Tryd.underlying9 (Kd.own_of_R HO289.out)))
        go_ret2
        exact ⟨by first | rfl | (simp [errW_none, errW_some] <;> rfl) | (simp [*, errW_none, errW_some] <;> rfl), by repeat (first | (with_reducible first | exact HB.out | apply below_alloc | apply pw_below_drewN | apply below_drew1) | exact HB.out)⟩
      · rw [if_neg c14] at H
        have c14b0 : (a1 == 58) = false := beq_eq_false_iff_ne.mpr c14
        have c14b1 : (a1 != 58) = true := bne_iff_ne.mpr c14
        replace H := Option.bind_eq_some_iff.mp H
        obtain ⟨t291, A180, H⟩ := H
        replace H : (some (1, t291)) = some (r1, r2) := H
        have A18 := Aside0.mk A180
        clear A180
        simp only [Option.some.injEq, Prod.mk.injEq] at H
        obtain ⟨rfl, rfl⟩ := H
        go_enter Tryd.func57, Tryd.ntmps57
        go_wp2_with (first | ((with_reducible refine gate_dst (N := 8) rfl ?_); refine Kd.R_lit (Kd.int .u8) _ 5 ?hg (N := 8) ?hd (xs := ([a1] : List Int)) (inner := [.int .u8 a1]) (ok := fun _ => True) (okp := fun _ => True) ?hr ?hp (fun _ hk => hk) trivial (Below.refl _ _) (Nat.le_refl _) (by simp) ?_; (case hd => rfl); (case hg => rfl); (case hr => first | (go_simp; done) | (go_simp; rfl)); (case hp => exact (Reps.one (show Kd.M (Kd.int .u8) _ _ _ a1 [.int .u8 a1] from rfl) (Reps.none _ _))); intro v288 w19 ho20 hb hg_ hnew_; clear hg_ hnew_; (first | rw [← Ny287.out] at ho20 | (simp only [Int.reduceToNat] at ho20; rw [← Ny287.out] at ho20)); have n0_ := Aside0.mk (Kd.R_lower ho20 (below_size (by repeat (first | (with_reducible first | exact HB.out | apply below_alloc | apply pw_below_drewN | apply below_drew1) | exact HB.out)))); have n1_ := Aside0.mk (below_step (by repeat (first | (with_reducible first | exact HB.out | apply below_alloc | apply pw_below_drewN | apply below_drew1) | exact HB.out)) hb); clear HB; have HO289 := n0_; have HB := n1_; clear n0_ n1_; clear hb ho20; have hcv21 := own_string (P := Tryd.prog) Tryd.underlying80 Tryd.underlying5 Tryd.underlying9 (Kd.own_of_R HO289.out)) | ((with_reducible refine gate_callee (f := 43) rfl ?_); refine goesL_ (some 22) rfl rfl Tryd.func43 (by kernel_rfl) rfl #[.string (strOfNums y287)] rfl (by (try simp only [List.map_toArray, List.map_cons, List.map_nil]); first | done | rfl | (simp only [List.length_drop, List.length_take]; rfl)) ?_; (with_reducible refine (octet_Token.calls (strOfNums y287) t291 _ ?side1 A18.out).mono ?_); (case side1 => first | exact hG | exact TabOk.drewN hG _ | exact TabOk.drewN (TabOk.drewN hG _) _ | exact TabOk.below hG (by repeat (first | (with_reducible first | exact HB.out | apply below_alloc | apply pw_below_drewN | apply below_drew1) | exact HB.out))); rintro e w22 ⟨rfl, hb⟩; refine ⟨_, rfl, ?_⟩; have n0_ := Aside0.mk (Kd.R_below (by (with_reducible repeat (first | apply Kd.R_alloc | apply Kd.R_drewN | apply Kd.R_drew)); exact HO289.out) hb); have n1_ := Aside0.mk (below_step (by repeat (first | (with_reducible first | exact HB.out | apply below_alloc | apply pw_below_drewN | apply below_drew1) | exact HB.out)) hb); clear HO289; clear HB; have HO289 := n0_; have HB := n1_; clear n0_ n1_; (try clear hb); (try clear hb2); (try clear hk); (try clear hi)))
        go_ret2
        exact ⟨by first | rfl | (simp [errW_none, errW_some] <;> rfl) | (simp [*, errW_none, errW_some] <;> rfl), by repeat (first | (with_reducible first | exact HB.out | apply below_alloc | apply pw_below_drewN | apply below_drew1) | exact HB.out)⟩
    · rw [if_neg c13] at H
      have c13b0 : (a0 == 1) = false := beq_eq_false_iff_ne.mpr c13
      have c13b1 : (a0 != 1) = true := bne_iff_ne.mpr c13
      by_cases c23 : a0 = 2
      · rw [if_pos c23] at H
        have c23b0 : (a0 == 2) = true := beq_iff_eq.mpr c23
        have c23b1 : (a0 != 2) = false := bne_eq_false_iff_eq.mpr c23
        clear c23
        by_cases c24 : a1 = 13
        · rw [if_pos c24] at H
          have c24b0 : (a1 == 13) = true := beq_iff_eq.mpr c24
          have c24b1 : (a1 != 13) = false := bne_eq_false_iff_eq.mpr c24
          clear c24
          simp only [Option.some.injEq, Prod.mk.injEq] at H
          obtain ⟨rfl, rfl⟩ := H
          go_enter Tryd.func57, Tryd.ntmps57
          go_wp2_with (first | ((with_reducible refine gate_dst (N := 8) rfl ?_); refine Kd.R_lit (Kd.int .u8) _ 5 ?hg (N := 8) ?hd (xs := ([a1] : List Int)) (inner := [.int .u8 a1]) (ok := fun _ => True) (okp := fun _ => True) ?hr ?hp (fun _ hk => hk) trivial (Below.refl _ _) (Nat.le_refl _) (by simp) ?_; (case hd => rfl); (case hg => rfl); (case hr => first | (go_simp; done) | (go_simp; rfl)); (case hp => exact (Reps.one (show Kd.M (Kd.int .u8) _ _ _ a1 [.int .u8 a1] from rfl) (Reps.none _ _))); intro v288 w25 ho26 hb hg_ hnew_; clear hg_ hnew_; (first | rw [← Ny287.out] at ho26 | (simp only [Int.reduceToNat] at ho26; rw [← Ny287.out] at ho26)); have n0_ := Aside0.mk (Kd.R_lower ho26 (below_size (by repeat (first | (with_reducible first | exact HB.out | apply below_alloc | apply pw_below_drewN | apply below_drew1) | exact HB.out)))); have n1_ := Aside0.mk (below_step (by repeat (first | (with_reducible first | exact HB.out | apply below_alloc | apply pw_below_drewN | apply below_drew1) | exact HB.out)) hb); clear HB; have HO289 := n0_; have HB := n1_; clear n0_ n1_; clear hb ho26; have hcv27 := own_string (P := Tryd.prog) Tryd.underlying80 Tryd.underlying5 Tryd.underlying9 (Kd.own_of_R HO289.out)))
          go_ret2
          exact ⟨by first | rfl | (simp [errW_none, errW_some] <;> rfl) | (simp [*, errW_none, errW_some] <;> rfl), by repeat (first | (with_reducible first | exact HB.out | apply below_alloc | apply pw_below_drewN | apply below_drew1) | exact HB.out)⟩
        · rw [if_neg c24] at H
          have c24b0 : (a1 == 13) = false := beq_eq_false_iff_ne.mpr c24
          have c24b1 : (a1 != 13) = true := bne_iff_ne.mpr c24
          replace H := Option.bind_eq_some_iff.mp H
          obtain ⟨t292, A280, H⟩ := H
          replace H : (some (2, t292)) = some (r1, r2) := H
          have A28 := Aside0.mk A280
          clear A280
          simp only [Option.some.injEq, Prod.mk.injEq] at H
          obtain ⟨rfl, rfl⟩ := H
          go_enter Tryd.func57, Tryd.ntmps57
          go_wp2_with (first | ((with_reducible refine gate_dst (N := 8) rfl ?_); refine Kd.R_lit (Kd.int .u8) _ 5 ?hg (N := 8) ?hd (xs := ([a1] : List Int)) (inner := [.int .u8 a1]) (ok := fun _ => True) (okp := fun _ => True) ?hr ?hp (fun _ hk => hk) trivial (Below.refl _ _) (Nat.le_refl _) (by simp) ?_; (case hd => rfl); (case hg => rfl); (case hr => first | (go_simp; done) | (go_simp; rfl)); (case hp => exact (Reps.one (show Kd.M (Kd.int .u8) _ _ _ a1 [.int .u8 a1] from rfl) (Reps.none _ _))); intro v288 w29 ho30 hb hg_ hnew_; clear hg_ hnew_; (first | rw [← Ny287.out] at ho30 | (simp only [Int.reduceToNat] at ho30; rw [← Ny287.out] at ho30)); have n0_ := Aside0.mk (Kd.R_lower ho30 (below_size (by repeat (first | (with_reducible first | exact HB.out | apply below_alloc | apply pw_below_drewN | apply below_drew1) | exact HB.out)))); have n1_ := Aside0.mk (below_step (by repeat (first | (with_reducible first | exact HB.out | apply below_alloc | apply pw_below_drewN | apply below_drew1) | exact HB.out)) hb); clear HB; have HO289 := n0_; have HB := n1_; clear n0_ n1_; clear hb ho30; have hcv31 := own_string (P := Tryd.prog) Tryd.underlying80 Tryd.underlying5 Tryd.underlying9 (Kd.own_of_R HO289.out)) | ((with_reducible refine gate_callee (f := 71) rfl ?_); refine goesL_ (some 28) rfl rfl Tryd.func71 (by kernel_rfl) rfl #[.string (strOfNums y287)] rfl (by (try simp only [List.map_toArray, List.map_cons, List.map_nil]); first | done | rfl | (simp only [List.length_drop, List.length_take]; rfl)) ?_; (with_reducible refine (octet_Text.calls (strOfNums y287) t292 _ ?side1 A28.out).mono ?_); (case side1 => first | exact hG | exact TabOk.drewN hG _ | exact TabOk.drewN (TabOk.drewN hG _) _ | exact TabOk.below hG (by repeat (first | (with_reducible first | exact HB.out | apply below_alloc | apply pw_below_drewN | apply below_drew1) | exact HB.out))); rintro e w32 ⟨rfl, hb⟩; refine ⟨_, rfl, ?_⟩; have n0_ := Aside0.mk (Kd.R_below (by (with_reducible repeat (first | apply Kd.R_alloc | apply Kd.R_drewN | apply Kd.R_drew)); exact HO289.out) hb); have n1_ := Aside0.mk (below_step (by repeat (first | (with_reducible first | exact HB.out | apply below_alloc | apply pw_below_drewN | apply below_drew1) | exact HB.out)) hb); clear HO289; clear HB; have HO289 := n0_; have HB := n1_; clear n0_ n1_; (try clear hb); (try clear hb2); (try clear hk); (try clear hi)))
          go_ret2
          exact ⟨by first | rfl | (simp [errW_none, errW_some] <;> rfl) | (simp [*, errW_none, errW_some] <;> rfl), by repeat (first | (with_reducible first | exact HB.out | apply below_alloc | apply pw_below_drewN | apply below_drew1) | exact HB.out)⟩
      · rw [if_neg c23] at H
        have c23b0 : (a0 == 2) = false := beq_eq_false_iff_ne.mpr c23
        have c23b1 : (a0 != 2) = true := bne_iff_ne.mpr c23
        by_cases c33 : a0 = 3
        · rw [if_pos c33] at H
          have c33b0 : (a0 == 3) = true := beq_iff_eq.mpr c33
          have c33b1 : (a0 != 3) = false := bne_eq_false_iff_eq.mpr c33
          clear c33
          simp only [Option.some.injEq, Prod.mk.injEq] at H
          obtain ⟨rfl, rfl⟩ := H
          go_enter Tryd.func57, Tryd.ntmps57
          go_wp2_with (first | ((with_reducible refine gate_dst (N := 8) rfl ?_); refine Kd.R_lit (Kd.int .u8) _ 5 ?hg (N := 8) ?hd (xs := ([a1] : List Int)) (inner := [.int .u8 a1]) (ok := fun _ => True) (okp := fun _ => True) ?hr ?hp (fun _ hk => hk) trivial (Below.refl _ _) (Nat.le_refl _) (by simp) ?_; (case hd => rfl); (case hg => rfl); (case hr => first | (go_simp; done) | (go_simp; rfl)); (case hp => exact (Reps.one (show Kd.M (Kd.int .u8) _ _ _ a1 [.int .u8 a1] from rfl) (Reps.none _ _))); intro v288 w34 ho35 hb hg_ hnew_; clear hg_ hnew_; (first | rw [← Ny287.out] at ho35 | (simp only [Int.reduceToNat] at ho35; rw [← Ny287.out] at ho35)); have n0_ := Aside0.mk (Kd.R_lower ho35 (below_size (by repeat (first | (with_reducible first | exact HB.out | apply below_alloc | apply pw_below_drewN | apply below_drew1) | exact HB.out)))); have n1_ := Aside0.mk (below_step (by repeat (first | (with_reducible first | exact HB.out | apply below_alloc | apply pw_below_drewN | apply below_drew1) | exact HB.out)) hb); clear HB; have HO289 := n0_; have HB := n1_; clear n0_ n1_; clear hb ho35; have hcv36 := own_string (P := Tryd.prog) Tryd.underlying80 Tryd.underlying5 Tryd.underlying9 (Kd.own_of_R HO289.out)))
          go_ret2
          exact ⟨by first | rfl | (simp [errW_none, errW_some] <;> rfl) | (simp [*, errW_none, errW_some] <;> rfl), by repeat (first | (with_reducible first | exact HB.out | apply below_alloc | apply pw_below_drewN | apply below_drew1) | exact HB.out)⟩
        · rw [if_neg c33] at H
          have c33b0 : (a0 == 3) = false := beq_eq_false_iff_ne.mpr c33
          have c33b1 : (a0 != 3) = true := bne_iff_ne.mpr c33
          by_cases c37 : a0 = 4
          · rw [if_pos c37] at H
            have c37b0 : (a0 == 4) = true := beq_iff_eq.mpr c37
            have c37b1 : (a0 != 4) = false := bne_eq_false_iff_eq.mpr c37
            clear c37
            simp only [Option.some.injEq, Prod.mk.injEq] at H
            obtain ⟨rfl, rfl⟩ := H
            go_enter Tryd.func57, Tryd.ntmps57
            go_wp2_with (first | ((with_reducible refine gate_dst (N := 8) rfl ?_); refine Kd.R_lit (Kd.int .u8) _ 5 ?hg (N := 8) ?hd (xs := ([a1] : List Int)) (inner := [.int .u8 a1]) (ok := fun _ => True) (okp := fun _ => True) ?hr ?hp (fun _ hk => hk) trivial (Below.refl _ _) (Nat.le_refl _) (by simp) ?_; (case hd => rfl); (case hg => rfl); (case hr => first | (go_simp; done) | (go_simp; rfl)); (case hp => exact (Reps.one (show Kd.M (Kd.int .u8) _ _ _ a1 [.int .u8 a1] from rfl) (Reps.none _ _))); intro v288 w38 ho39 hb hg_ hnew_; clear hg_ hnew_; (first | rw [← Ny287.out] at ho39 | (simp only [Int.reduceToNat] at ho39; rw [← Ny287.out] at ho39)); have n0_ := Aside0.mk (Kd.R_lower ho39 (below_size (by repeat (first | (with_reducible first | exact HB.out | apply below_alloc | apply pw_below_drewN | apply below_drew1) | exact HB.out)))); have n1_ := Aside0.mk (below_step (by repeat (first | (with_reducible first | exact HB.out | apply below_alloc | apply pw_below_drewN | apply below_drew1) | exact HB.out)) hb); clear HB; have HO289 := n0_; have HB := n1_; clear n0_ n1_; clear hb ho39; have hcv40 := own_string (P := Tryd.prog) Tryd.underlying80 Tryd.underlying5 Tryd.underlying9 (Kd.own_of_R HO289.out)))
            go_ret2
            exact ⟨by first | rfl | (simp [errW_none, errW_some] <;> rfl) | (simp [*, errW_none, errW_some] <;> rfl), by repeat (first | (with_reducible first | exact HB.out | apply below_alloc | apply pw_below_drewN | apply below_drew1) | exact HB.out)⟩
          · rw [if_neg c37] at H
            have c37b0 : (a0 == 4) = false := beq_eq_false_iff_ne.mpr c37
            have c37b1 : (a0 != 4) = true := bne_iff_ne.mpr c37
            simp only [Option.some.injEq, Prod.mk.injEq] at H
            obtain ⟨rfl, rfl⟩ := H
            go_enter Tryd.func57, Tryd.ntmps57
            go_wp2_with (first | ((with_reducible refine gate_dst (N := 8) rfl ?_); refine Kd.R_lit (Kd.int .u8) _ 5 ?hg (N := 8) ?hd (xs := ([a1] : List Int)) (inner := [.int .u8 a1]) (ok := fun _ => True) (okp := fun _ => True) ?hr ?hp (fun _ hk => hk) trivial (Below.refl _ _) (Nat.le_refl _) (by simp) ?_; (case hd => rfl); (case hg => rfl); (case hr => first | (go_simp; done) | (go_simp; rfl)); (case hp => exact (Reps.one (show Kd.M (Kd.int .u8) _ _ _ a1 [.int .u8 a1] from rfl) (Reps.none _ _))); intro v288 w41 ho42 hb hg_ hnew_; clear hg_ hnew_; (first | rw [← Ny287.out] at ho42 | (simp only [Int.reduceToNat] at ho42; rw [← Ny287.out] at ho42)); have n0_ := Aside0.mk (Kd.R_lower ho42 (below_size (by repeat (first | (with_reducible first | exact HB.out | apply below_alloc | apply pw_below_drewN | apply below_drew1) | exact HB.out)))); have n1_ := Aside0.mk (below_step (by repeat (first | (with_reducible first | exact HB.out | apply below_alloc | apply pw_below_drewN | apply below_drew1) | exact HB.out)) hb); clear HB; have HO289 := n0_; have HB := n1_; clear n0_ n1_; clear hb ho42; have hcv43 := own_string (P := Tryd.prog) Tryd.underlying80 Tryd.underlying5 Tryd.underlying9 (Kd.own_of_R HO289.out)))
            go_ret2
            exact ⟨by first | rfl | (simp [errW_none, errW_some] <;> rfl) | (simp [*, errW_none, errW_some] <;> rfl), by repeat (first | (with_reducible first | exact HB.out | apply below_alloc | apply pw_below_drewN | apply below_drew1) | exact HB.out)⟩
end Go.Proofs.YtdkecmjoenfjdaaDoor.Pr
end
section
namespace Go.Proofs.YtdkecmjoenfjdaaDoorH
open Go.RowKit Go.Shelf Go.Proofs.YtdkecmjoenfjdaaDoorW.PrintWords Go.Proofs.YtdkecmjoenfjdaaDoorW.PrintLast Go.Proofs.YtdkecmjoenfjdaaDoorW.PrintMore Go.Proofs.YtdkecmjoenfjdaaDoor.Pr
attribute [local go_sem] Oper.semAt_some
def nxt (st c : Int) : Int × Bool := (block_next.f st c).getD (5, false)
theorem one_size (c : Int) : (strOfNums ([c] : List Int)).size = 1 := rfl
theorem nxt_eq (st c : Int) : block_next.f st c = some (nxt st c) := by
  have h1 : octet_Token.f (strOfNums ([c] : List Int)) = some (tokB (strOfNums ([c] : List Int))) := by
    unfold octet_Token.f
    rw [if_pos (by rw [one_size]; omega)]
  have h2 : octet_Text.f (strOfNums ([c] : List Int)) = some (allB textI (strOfNums ([c] : List Int))) := by
    unfold octet_Text.f
    rw [if_pos (by rw [one_size]; omega)]
  unfold nxt block_next.f
  simp only [Option.bind_some, h1, h2]
  repeat' split
  all_goals rfl
theorem bt_get (s : ByteArray) (i : Nat) (h : i < s.size) : bt s (i : Int) = ((s[i]'h).toNat : Int) := by
  rw [bt_nat s i h, List.getD_eq_getElem?_getD, List.getElem?_eq_getElem (by rw [← size_eq_length]; exact h)]
  rfl
def scanP : Nat → ByteArray → Nat → Int → Nat × Int
  | 0, _, i, _ => (i, 4)
  | k + 1, s, i, st => if i < s.size then (if (nxt st (bt s i)).2 = true then (if (nxt st (bt s i)).1 = 5 then (i + 1, 0) else scanP k s (i + 1) (nxt st (bt s i)).1) else (i, 2)) else (i, 4)
theorem scanP_end (k : Nat) (s : ByteArray) (st : Int) : scanP k s s.size st = (s.size, 4) := by
  cases k with
  | zero => rfl
  | succ k => rw [scanP, if_neg (Nat.lt_irrefl _)]
theorem scanP_bad (k : Nat) (s : ByteArray) (i : Nat) (st nx : Int) (hi : i < s.size) (h : nxt st (bt s i) = (nx, false)) : scanP (k + 1) s i st = (i, 2) := by
  rw [scanP, if_pos hi, h]; rfl
theorem scanP_done (k : Nat) (s : ByteArray) (i : Nat) (st : Int) (hi : i < s.size) (h : nxt st (bt s i) = (5, true)) : scanP (k + 1) s i st = (i + 1, 0) := by
  rw [scanP, if_pos hi, h]; rfl
theorem scanP_on (k : Nat) (s : ByteArray) (i : Nat) (st nx : Int) (hi : i < s.size) (h : nxt st (bt s i) = (nx, true)) (h5 : nx ≠ 5) : scanP (k + 1) s i st = scanP k s (i + 1) nx := by
  rw [scanP, if_pos hi, h]; simp only [if_pos]; rw [if_neg h5]
theorem results_cell3 {fn : Func} {p u x : Tmp} {ty : TypeId} (h : fn.results = #[.cell p ty, .tmp u, .tmp x]) (tmps : Array Value) (P : Program) (w : World) (a : Addr) (v : Value)
    (hp : tmps.getD p undef = .pointer (some a)) (hA : (isAgg ty).run P w = .ok false w) (hc : w.cell? a = some v) : (results fn tmps).run P w = .ok (.tuple #[v, tmps.getD u undef, tmps.getD x undef]) w := by
  rw [Array.getD_eq_getD_getElem?] at hp
  simp only [results, h]
  simp [Sem.run_bind, Result.andThen, hp, loadVar, hA, asAddr, go_sem, hc]
def fldOf (s : ByteArray) : Fld := ⟨parseF s, parseV s⟩
def fieldsOf : List (Nat × ByteArray) → List Fld
  | [] => []
  | x :: l => if x.2.size = 0 then [] else fldOf x.2 :: fieldsOf l
theorem fieldsOf_snoc : ∀ (l : List (Nat × ByteArray)) (x : Nat × ByteArray), (∀ y ∈ l, y.2.size ≠ 0) → fieldsOf (l ++ [x]) = fieldsOf l ++ (if x.2.size = 0 then [] else [fldOf x.2])
  | [], x, _ => rfl
  | y :: l, x, h => by
    rw [List.cons_append, fieldsOf, fieldsOf, if_neg (h y List.mem_cons_self), if_neg (h y List.mem_cons_self), fieldsOf_snoc l x (fun z hz => h z (List.mem_cons_of_mem _ hz))]
    rfl
theorem fieldsOf_prefix : ∀ l r : List (Nat × ByteArray), (∃ y ∈ l, y.2.size = 0) → fieldsOf (l ++ r) = fieldsOf l
  | [], _, ⟨_, h, _⟩ => absurd h List.not_mem_nil
  | x :: l, r, ⟨y, hy, h0⟩ => by
    rw [List.cons_append, fieldsOf, fieldsOf]
    by_cases hx : x.2.size = 0
    · rw [if_pos hx, if_pos hx]
    · rw [if_neg hx, if_neg hx, fieldsOf_prefix l r]
      rcases List.mem_cons.1 hy with rfl | hy
      · exact absurd h0 hx
      · exact ⟨y, hy, h0⟩
theorem fieldsOf_length : ∀ l : List (Nat × ByteArray), (fieldsOf l).length ≤ l.length
  | [] => Nat.le_refl _
  | x :: l => by
    have := fieldsOf_length l
    rw [fieldsOf]
    split
    · simp
    · simp only [List.length_cons]; omega
def hasNil (l : List (Nat × ByteArray)) : Prop := ∃ y ∈ l, y.2.size = 0
def noNil (l : List (Nat × ByteArray)) : Prop := ∀ y ∈ l, y.2.size ≠ 0
theorem noNil_snoc {l : List (Nat × ByteArray)} {x : Nat × ByteArray} (h : noNil l) (hx : x.2.size ≠ 0) : noNil (l ++ [x]) := fun y hy => (List.mem_append.1 hy).elim (h y) (fun hy => by rcases List.mem_singleton.1 hy with rfl; exact hx)
def encF (x : Fld) : List Value := [.string x.f0, .string x.f1]
def scanR (s : ByteArray) : List Fld × Int × Int :=
  if (scanP (s.size + 1) s 0 0).2 = 0 then (fieldsOf (linesOf ((s.extract 0 (scanP (s.size + 1) s 0 0).1).size + 1) (s.extract 0 (scanP (s.size + 1) s 0 0).1) 0), (((scanP (s.size + 1) s 0 0).1 : Nat) : Int), 0)
  else ([], (((scanP (s.size + 1) s 0 0).1 : Nat) : Int), (scanP (s.size + 1) s 0 0).2)
theorem extract0_size (s : ByteArray) (k : Nat) (h : k ≤ s.size) : (s.extract 0 k).size = k := by
  have h1 := congrArg List.length (extract_to s k)
  rw [← size_eq_length, List.length_take, ← size_eq_length] at h1
  omega
theorem scanR_bad {s : ByteArray} {i : Nat} {e : Int} (h : scanP (s.size + 1) s 0 0 = (i, e)) (he : e ≠ 0) : scanR s = ([], (i : Int), e) := by
  unfold scanR
  rw [h, if_neg he]
theorem scanR_good {s : ByteArray} {i : Nat} (h : scanP (s.size + 1) s 0 0 = (i, 0)) (hi : i ≤ s.size) : scanR s = (fieldsOf (linesOf (i + 1) (s.extract 0 i) 0), (i : Int), 0) := by
  unfold scanR
  rw [h, if_pos rfl, extract0_size s i hi]
set_option maxRecDepth 100000 in
set_option maxHeartbeats 2000000 in
theorem scan_in (n : Nat) (hn : 4 ≤ n) (s : ByteArray) (hs : s.size < 4000000000) (w : World) (hG : TabOk w) :
    CallsIn Fence.wide n Tryd.prog 31 #[.string s] w fun e w' => ∃ (v : Value) (l : List Fld) (i er : Int), e = .returned (.tuple #[v, .int .i64 i, .int .i64 er]) ∧ scanR s = (l, i, er) ∧ Kd.R k24 24 w' w.heap.size (fun _ => True) v l ∧ Below w.heap.size w w' := by
  have h1 : 1 ≤ n := by omega
  refine callsIn_of_wp_marks Tryd.func31 rfl trivial ?_ rfl
  simp only [Tryd.ntmps31, List.size_toArray, List.length_cons, List.length_nil, Nat.reduceAdd, Nat.reduceSub, Array.replicate_succ, Array.replicate_zero, List.push_toArray, List.append_toArray, List.nil_append, List.cons_append]
  gi_wp2
  refine wpIn_scope_straight ?_
  gi_wp2
  apply wpIn_label
  gi_wp2
  gi_loopw [3, 5] (fun v3 v5 wr => ∃ (i k : Nat) (st : Int), i ≤ s.size ∧ s.size - i < k ∧ v3 = .int .i64 i ∧ v5 = .int .i64 st ∧ st ≠ 5 ∧ Aside0 (scanP (s.size + 1) s 0 0 = scanP k s i st) ∧ Aside0 (Boxed wr w.heap.size 36 (.slice none 0 0)) ∧ Aside0 (Below w.heap.size w wr))
    (fun v3 _ _ => s.size - (intOf v3).toNat)
  case atStart => exact ⟨0, s.size + 1, 0, Nat.zero_le _, by omega, rfl, rfl, by decide, ⟨rfl⟩, ⟨Boxed.new _ _ _⟩, ⟨below_alloc (Below.refl _ _) _⟩⟩
  case round =>
    obtain ⟨i, k, st, hi, hk, rfl, rfl, hst, hE, hbx, hb⟩ := hrel
    by_cases hlt : i < s.size
    · obtain ⟨k, rfl⟩ : ∃ q, k = q + 1 := ⟨k - 1, by omega⟩
      obtain ⟨q, hq⟩ : ∃ q, nxt st (bt s i) = q := ⟨_, rfl⟩
      obtain ⟨nx, ok⟩ := q
      have HC := Aside0.mk (block_next.calls st (bt s i) nx ok wr (hG.below hb.out) (by rw [nxt_eq, hq]))
      rw [bt_get s i hlt] at HC
      have HQ := Aside0.mk hq
      clear hq
      gi_wp2
      refine ⟨trivial, ?_⟩
      refine (callsIn_wide.2 HC.out).mono ?_
      rintro e w1 ⟨rfl, b1⟩
      have B1 := Aside0.mk (hb.out.trans (b1.mono hb.out.size))
      have X1 := Aside0.mk (show Boxed w1 w.heap.size 36 (.slice none 0 0) from (b1.block _ hbx.out.lt).trans hbx.out)
      clear b1 HC hbx hb
      cases ok with
      | false =>
        have hcl := X1.out.cell
        have hfz := X1.out.frozen
        gi_wp2
        refine ⟨_, results_cell3 rfl _ _ _ ⟨w.heap.size, 0, none⟩ (.slice none 0 0) rfl (run_isAgg_plain Tryd.underlying36 rfl _) (X1.out.set _).cell, ?_⟩
        exact ⟨_, [], _, _, rfl, scanR_bad (hE.out.trans (scanP_bad k s i st nx hlt HQ.out)) (by decide), Kd.R_nil _ _ _ _ _, B1.out.setCell (p := ⟨w.heap.size, 0, none⟩) (Nat.le_refl _) _⟩
      | true =>
        by_cases h5 : nx = 5
        · subst h5
          have HP := Aside0.mk (hE.out.trans (scanP_done k s i st hlt HQ.out))
          clear hE HQ
          have HL := Aside0.mk (lines_calls (s.extract 0 (i + 1)) w1)
          gi_wp2
          refine ⟨trivial, ?_⟩
          refine (callsIn_wide.2 HL.out).mono ?_
          rintro e w2 ⟨rfl, rfl⟩
          clear HL
          gi_wp2
          have hs1 := extract0_size s (i + 1) (by omega)
          have HB2 := Aside0.mk (show Below w.heap.size w (w1.alloc (.cells #[.string (s.extract 0 (i + 1))] 9)) from below_alloc B1.out _)
          have hwx : w.heap.size < w1.heap.size := X1.out.lt
          obtain ⟨ls, hls⟩ : ∃ ls, linesOf (i + 1 + 1) (s.extract 0 (i + 1)) 0 = ls := ⟨_, rfl⟩
          have HLL := Aside0.mk (show ls.length ≤ i + 2 by rw [← hls]; exact linesOf_length _ _ _)
          have HLZ := Aside0.mk (show ∀ y ∈ ls, y.2.size ≤ i + 1 by rw [← hls]; intro y hy; have := linesOf_size _ _ _ y hy; rwa [hs1] at this)
          have HSR := Aside0.mk (show scanR s = (fieldsOf ls, ((i + 1 : Nat) : Int), 0) by rw [scanR_good HP.out (by omega), hls])
          have HSQ := Aside0.mk (lines_own (n - 1) (by omega) w1.heap.size (s.extract 0 (i + 1)) (by rw [hs1]; omega) w hG _ HB2.out (Boxed.new w1 9 (.string (s.extract 0 (i + 1)))))
          rw [hs1, hls] at HSQ
          clear hls
          refine wpIn_range_own (F := Fence.wide) rfl rfl h1 (gf := 60) (lb := #[.pointer (some ⟨w1.heap.size, 0, none⟩)]) rfl trivial (enters_of Tryd.func60 (by kernel_rfl) rfl) HSQ.out (Below.refl _ _) (fun r h => h.elim)
            (by rintro r (h | rfl) <;> rw [World.size_alloc] <;> omega) (fun _ => rfl)
            (fun pre g W => ((∀ q, g = some q → w1.heap.size + 3 ≤ q) ∧ ∃ v, v.ownBlock = g ∧ Boxed W w.heap.size 36 v ∧ W.ownsRow w.heap.size 24 2 v (fieldsOf pre).length ((fieldsOf pre).flatMap encF)) ∧ (Below w.heap.size w W ∧ noNil pre))
            (fun c pre g W => ((∀ q, g = some q → w1.heap.size + 3 ≤ q) ∧ ∃ v, v.ownBlock = g ∧ Boxed W w.heap.size 36 v ∧ W.ownsRow w.heap.size 24 2 v (fieldsOf pre).length ((fieldsOf pre).flatMap encF)) ∧ (Below w.heap.size w W ∧ (c = .exit 2 ∧ hasNil pre)))
            (Abd.and (Abd.rowed (fun pre => (fieldsOf pre).length) (fun pre => (fieldsOf pre).flatMap encF) _ (by rw [World.size_alloc]; omega) (by rw [World.size_alloc]; omega) (fun h => h) (fun r h => h.elim)) (Abd.and (Abd.low (by rw [World.size_alloc]; omega) (Nat.le_refl _) (fun r h => h.elim)) (Abd.pure (β := List (Nat × ByteArray)) (fun pre _ => noNil pre))))
            (fun c => Abd.and (Abd.rowed (fun pre => (fieldsOf pre).length) (fun pre => (fieldsOf pre).flatMap encF) _ (by rw [World.size_alloc]; omega) (by rw [World.size_alloc]; omega) (fun h => h) (fun r h => h.elim)) (Abd.and (Abd.low (by rw [World.size_alloc]; omega) (Nat.le_refl _) (fun r h => h.elim)) (Abd.pure (β := List (Nat × ByteArray)) (fun pre _ => c = .exit 2 ∧ hasNil pre))))
            ⟨⟨(fun q e => by cases e), _, rfl, X1.out.alloc _, World.ownsRow_nil _ _ _ _⟩, HB2.out, fun y hy => absurd hy List.not_mem_nil⟩
            (fun pre g W q h e => by have := h.1.1 q e; rw [World.size_alloc]; omega) (fun c pre g W q h e => by have := h.1.1 q e; rw [World.size_alloc]; omega)
            (fun x a' _ => a' = { tmps := #[Value.string s, undef, Value.pointer (some { block := w.heap.size, off := 0 }),
              Value.int IntKind.i64 (↑i + 1), u4, Value.int IntKind.i64 5, Value.int IntKind.i64 5, Value.bool true, undef,
              Value.string x.2, undef, undef, Value.int IntKind.i64 ↑i, Value.string s, Value.int IntKind.i64 ↑s.size, Value.bool true,
              Value.tuple #[Value.int IntKind.i64 5, Value.bool true], Value.int IntKind.i64 st, Value.string s,
              Value.int IntKind.i64 ↑i, Value.int IntKind.u8 ↑s[i].toNat,
              Value.tuple #[Value.int IntKind.i64 5, Value.bool true], Value.int IntKind.i64 5, Value.bool true,
              Value.bool true, Value.bool false, u26, Value.int IntKind.i64 ↑i, Value.int IntKind.i64 (↑i + 1),
              Value.int IntKind.i64 5, Value.int IntKind.i64 5, Value.bool true, Value.int IntKind.i64 5, Value.bool false,
              undef, Value.string s, Value.int IntKind.i64 (↑i + 1), Value.string (s.extract 0 (i + 1)),
              Value.func (Fn.func 60) #[] #[Value.pointer (some { block := w1.heap.size, off := 0 })], Value.int IntKind.i64 ((x.1 : Nat) : Int), Value.string x.2, undef,
              undef, undef, undef, undef, undef, undef, undef, undef, undef, undef, undef, undef], defers := [] })
            (fun x a' _ _ _ _ _ h _ _ => h) ?assign ?body ?done ?stop
          case assign =>
            intro l pre x g W K hI hK
            dsimp only [encL]
            gi_wp2
            exact hK _ _ (Spares.refl _ _ _) hI rfl
          case body =>
            rintro l pre ⟨at', ln⟩ g a' W hW2 ⟨⟨hgq, v, rfl, hbw, hrow⟩, hBW, hne⟩ rfl hsp
            have hmem : ((at', ln) : Nat × ByteArray) ∈ ls := hsp.subset (List.mem_append_right _ List.mem_cons_self)
            have hlz : ln.size ≤ i + 1 := HLZ.out _ hmem
            have hpl : (fieldsOf pre).length + 1 ≤ i + 2 := by
              have h1 := hsp.length_le
              have h2 := HLL.out
              have h3 := fieldsOf_length pre
              rw [List.length_append, List.length_singleton] at h1
              omega
            have HF := Aside0.mk (fieldsOf_snoc pre (at', ln) hne)
            have HGQ := Aside0.mk hgq
            have HROW := Aside0.mk hrow
            have HBW := Aside0.mk hBW
            have HNE := Aside0.mk hne
            have HBX := Aside0.mk hbw
            rw [World.size_alloc] at hW2
            clear hgq hrow hBW hne hbw hsp hmem
            by_cases h0 : ln.size = 0
            · obtain rfl : ln = ⟨#[]⟩ := ByteArray.ext (Array.eq_empty_of_size_eq_zero h0)
              gi_wp2
              refine ⟨_, Spares.refl _ _ _, ⟨HGQ.out, v, rfl, HBX.out, ?_⟩, HBW.out, rfl, (show hasNil _ from ⟨(at', ⟨#[]⟩), List.mem_append_right _ List.mem_cons_self, rfl⟩)⟩
              rw [HF.out, if_pos h0, List.append_nil]
              exact HROW.out
            · obtain ⟨r3, hr3⟩ : ∃ r3 : Int, (if lineB ln = true then (0 : Int) else 2) = r3 := ⟨_, rfl⟩
              have HC := Aside0.mk (field_Parse.calls ln (parseF ln) (parseV ln) r3 W (hG.below HBW.out) (by rw [field_Parse_eq ln (by omega), hr3]))
              clear hr3
              have hne1 : (ln.toList == ([] : List UInt8)) = false := by
                rw [ByteArray.toList_eq, beq_eq_false_iff_ne]
                intro e
                apply h0
                rw [size_eq_length, e]; rfl
              have hne2 : (ln.toList = ([] : List UInt8)) = False := by simpa using hne1
              have hne3 : (ln = (⟨#[]⟩ : ByteArray)) = False := by
                refine eq_false ?_
                rintro rfl
                exact h0 rfl
              rw [if_neg h0] at HF
              gi_wp2
              refine ⟨trivial, (fun _ => by omega), ?_⟩
              refine (CallsIn.inRound l (callsIn_wide.2 HC.out)).mono ?_
              rintro e w2 ⟨rfl, b2⟩
              have HB2 := Aside0.mk b2
              have HX2 := Aside0.mk (show Boxed w2 w.heap.size 36 v from (b2.block _ HBX.out.lt).trans HBX.out)
              have HR2 := Aside0.mk (show w2.ownsRow w.heap.size 24 2 v (fieldsOf pre).length ((fieldsOf pre).flatMap encF) from own_move HROW.out (fun k hk => b2.block k (own_lt HROW.out k hk)))
              have hcl2 := (HX2.out.alloc (.cells #[.string (parseF ln), .string (parseV ln)] 24)).cell
              clear b2 HC HROW HBX
              gi_wp2_with (gi_at_builtin; refine halt ?_)
              refine unhalt ?_
              refine in_append w.heap.size rfl _ _ 36 24 (.agg #[(.string ⟨#[]⟩), (.string ⟨#[]⟩)]) 2 32 rfl Tryd.underlying36 info24 rfl (by decide) (by omega) v (fieldsOf pre).length ((fieldsOf pre).flatMap encF) [.string (parseF ln), .string (parseV ln)] rfl ?hx rfl ?one (HR2.out.alloc _) ?base ?lim ?_
              case hx => rw [World.size_alloc]; rfl
              case one =>
                intro u hu
                rcases List.mem_cons.1 hu with rfl | hu
                · rfl
                · rcases List.mem_singleton.1 hu with rfl
                  rfl
              case base =>
                rw [World.size_alloc]
                have := HBW.out.size
                have := HB2.out.size
                omega
              case lim => omega
              intro v1 w3 ho3 hg3 hat3
              obtain ⟨g', cap', rfl⟩ := ownsRow_succ ho3
              obtain ⟨hv1, hv2, hr2, hk2, hb2⟩ := collected (K := fun k => (w1.alloc (.cells #[.string (s.extract 0 (i + 1))] 9)).heap.size ≤ k ∨ (k < w.heap.size ∨ k = w1.heap.size)) (HX2.out.alloc _) (by decide) (HR2.out.alloc _) (by rw [World.size_alloc]; omega) (Nat.le_refl _) ho3 hg3 hat3
              have hc1 := hv1.cell
              have hf1 := hv1.frozen
              have HV2 := Aside0.mk hv2
              have HRR := Aside0.mk hr2
              have HK2 := Aside0.mk hk2
              have HB3 := Aside0.mk hb2
              clear hv1 hv2 hr2 hk2 hb2 ho3 hg3 hat3
              gi_wp2
              refine ⟨_, ((Spares.below HB2.out).trans (Spares.below (below_alloc (Below.refl _ _) _))).trans HK2.out, ⟨HK2.out.ge (n := w1.heap.size + 3) (by rw [World.size_alloc]; have := HB2.out.size; omega) HGQ.out, _, rfl, HV2.out, ?_⟩, (below_alloc (HBW.out.trans (HB2.out.mono HBW.out.size)) _).trans HB3.out, noNil_snoc HNE.out h0⟩
              rw [HF.out, List.length_append, List.flatMap_append]
              exact HRR.out
          case done =>
            rintro D ys g W hD rfl ⟨⟨hgq, v, rfl, hbw, hrow⟩, hBW, hne⟩ hK
            obtain ⟨a0, n0, c0, hv0⟩ := owns_slice hrow
            subst hv0
            rw [World.size_alloc] at hD
            obtain ⟨q1, q2, q3, q4⟩ := closed hbw (by decide) hrow (Nat.le_refl _) (by omega) hK
            have Q1 := Aside0.mk q1
            have Q2 := Aside0.mk q2
            have Q3 := Aside0.mk q3
            have Q4 := Aside0.mk (hBW.trans q4)
            have hcl := hbw.cell
            have hfz := hbw.frozen
            clear q1 q2 q3 q4 hrow hBW hbw hK hgq
            gi_wp2
            refine ⟨by simp, .inl ⟨_, _, rfl, run_takeDeferred Q1.out, ?_⟩⟩
            refine ⟨_, results_cell3 rfl _ _ _ ⟨w.heap.size, 0, none⟩ (.slice a0 n0 c0) rfl (run_isAgg_plain Tryd.underlying36 rfl _) Q2.out.cell, ?_⟩
            exact ⟨_, fieldsOf ys, _, _, rfl, HSR.out, row_of_owns k24 encF (fun _ => rfl) (fun _ x => k24_mkM _ _ _ x) Q3.out, Q4.out⟩
          case stop =>
            rintro D c pre g W hD hsp ⟨⟨hgq, v, rfl, hbw, hrow⟩, hBW, rfl, hz⟩ hK
            have HSS := Aside0.mk (show scanR s = (fieldsOf pre, ((i + 1 : Nat) : Int), 0) by
              obtain ⟨r, hr⟩ := hsp
              rw [HSR.out, ← hr, fieldsOf_prefix pre r hz])
            clear hsp hz
            obtain ⟨a0, n0, c0, hv0⟩ := owns_slice hrow
            subst hv0
            rw [World.size_alloc] at hD
            obtain ⟨q1, q2, q3, q4⟩ := closed hbw (by decide) hrow (Nat.le_refl _) (by omega) hK
            have Q1 := Aside0.mk q1
            have Q2 := Aside0.mk q2
            have Q3 := Aside0.mk q3
            have Q4 := Aside0.mk (hBW.trans q4)
            have hcl := hbw.cell
            have hfz := hbw.frozen
            clear q1 q2 q3 q4 hrow hBW hbw hK hgq
            gi_wp2
            refine ⟨by simp, .inl ⟨_, _, rfl, run_takeDeferred Q1.out, ?_⟩⟩
            refine ⟨_, results_cell3 rfl _ _ _ ⟨w.heap.size, 0, none⟩ (.slice a0 n0 c0) rfl (run_isAgg_plain Tryd.underlying36 rfl _) Q2.out.cell, ?_⟩
            exact ⟨_, fieldsOf pre, _, _, rfl, HSS.out, row_of_owns k24 encF (fun _ => rfl) (fun _ x => k24_mkM _ _ _ x) Q3.out, Q4.out⟩
        · have HP := Aside0.mk (hE.out.trans (scanP_on k s i st nx hlt HQ.out h5))
          clear hE HQ
          gi_wp2
          go_roundw
          case rel => exact ⟨i + 1, k, nx, by omega, by omega, congrArg (Value.int IntKind.i64) (by omega), rfl, h5, HP, X1, B1⟩
          case measure => simp [intOf]; omega
    · have hie : i = s.size := by omega
      subst hie
      have HP := Aside0.mk (hE.out.trans (scanP_end k s st))
      have hcl := hbx.out.cell
      have hfz := hbx.out.frozen
      clear hE
      gi_wp2
      refine ⟨_, results_cell3 rfl _ _ _ ⟨w.heap.size, 0, none⟩ (.slice none 0 0) rfl (run_isAgg_plain Tryd.underlying36 rfl _) (hbx.out.set _).cell, ?_⟩
      exact ⟨_, [], _, _, rfl, scanR_bad HP.out (by decide), Kd.R_nil _ _ _ _ _, hb.out.setCell (p := ⟨w.heap.size, 0, none⟩) (Nat.le_refl _) _⟩
def block_Scan.f (a0 : ByteArray) : Option ((List S24) × Int × Int) := if a0.size < 4000000000 then some (scanR a0) else none
theorem block_Scan.calls (a0 : ByteArray) (r1 : List S24) (r2 : Int) (r3 : Int) (w : World) (hG : TabOk w) (h : block_Scan.f a0 = some (r1, r2, r3)) :
    Calls Tryd.prog 31 #[.string a0] w fun e w' => ∃ v0_ : Value, e = .returned (.tuple #[v0_, .int .i64 r2, .int .i64 r3]) ∧ Kd.R k24 24 w' w.heap.size (fun _ => True) v0_ r1 ∧ Below w.heap.size w w' := by
  unfold block_Scan.f at h
  split at h
  · rename_i hs
    injection h with h
    refine (callsIn_wide.1 (scan_in 4 (Nat.le_refl _) a0 hs w hG)).mono ?_
    rintro e w' ⟨v, l, i, er, rfl, hr, hR, hb⟩
    rw [h] at hr
    cases hr
    exact ⟨v, rfl, hR, hb⟩
  · cases h
end Go.Proofs.YtdkecmjoenfjdaaDoorH
end
section
namespace Go.Proofs.YtdkecmjoenfjdaaDoor.Pr
open Go.RowKit Go.Proofs.YtdkecmjoenfjdaaDoorH Go.Proofs.YtdkecmjoenfjdaaDoorW.PrintWords Go.Proofs.YtdkecmjoenfjdaaDoorW.PrintLast Go.Proofs.YtdkecmjoenfjdaaDoorW.PrintMore
attribute [local go_sem] max2_int min2_int max_two min_two max_three min_three max_four min_four   -- for this text's walks alone
set_option linter.unusedVariables false
set_option linter.unusedSimpArgs false
def catchpitlaw06_wakes.f  : Option (Bool) := (block_Scan.f (⟨#[97, 58, 32, 49, 13, 10, 13, 10, 120]⟩ : ByteArray)).bind fun bt293 => ((block_Scan.f (⟨#[97, 32, 98]⟩ : ByteArray)).bind fun bt298 => (if (bt293.1.length : Int) = 1 then (if bt293.2.1 = 8 then (if bt293.2.2 = 0 then (if bt298.2.1 = 1 then (some (bt298.2.2 == 2)) else (some false)) else (some false)) else (some false)) else (some false)))
set_option maxHeartbeats 8000000 in
set_option maxRecDepth 100000 in
theorem catchpitlaw06_wakes.calls  (r : Bool) (w : World) (hG : TabOk w) (h : catchpitlaw06_wakes.f  = some r) :
    Calls Tryd.prog 30 #[] w fun e w' => e = .returned (.bool r) ∧ Below w.heap.size w w' := by
  have HB := Aside0.mk (Below.refl w.heap.size w)
  have H : ((block_Scan.f (⟨#[97, 58, 32, 49, 13, 10, 13, 10, 120]⟩ : ByteArray)).bind fun bt293 => ((block_Scan.f (⟨#[97, 32, 98]⟩ : ByteArray)).bind fun bt298 => (if (bt293.1.length : Int) = 1 then (if bt293.2.1 = 8 then (if bt293.2.2 = 0 then (if bt298.2.1 = 1 then (some (bt298.2.2 == 2)) else (some false)) else (some false)) else (some false)) else (some false)))) = some r := h
  clear h
  replace H := Option.bind_eq_some_iff.mp H
  obtain ⟨⟨t293, t294, t295⟩, A10, H⟩ := H
  replace H : ((block_Scan.f (⟨#[97, 32, 98]⟩ : ByteArray)).bind fun bt298 => (if (t293.length : Int) = 1 then (if t294 = 8 then (if t295 = 0 then (if bt298.2.1 = 1 then (some (bt298.2.2 == 2)) else (some false)) else (some false)) else (some false)) else (some false))) = some r := H
  have A1 := Aside0.mk A10
  clear A10
  replace H := Option.bind_eq_some_iff.mp H
  obtain ⟨⟨t298, t299, t300⟩, A20, H⟩ := H
  replace H : (if (t293.length : Int) = 1 then (if t294 = 8 then (if t295 = 0 then (if t299 = 1 then (some (t300 == 2)) else (some false)) else (some false)) else (some false)) else (some false)) = some r := H
  have A2 := Aside0.mk A20
  clear A20
  by_cases c3 : (t293.length : Int) = 1
  · rw [if_pos c3] at H
    have c3b0 : ((t293.length : Int) == 1) = true := beq_iff_eq.mpr c3
    have c3b1 : ((t293.length : Int) != 1) = false := bne_eq_false_iff_eq.mpr c3
    clear c3
    by_cases c4 : t294 = 8
    · rw [if_pos c4] at H
      have c4b0 : (t294 == 8) = true := beq_iff_eq.mpr c4
      have c4b1 : (t294 != 8) = false := bne_eq_false_iff_eq.mpr c4
      clear c4
      by_cases c5 : t295 = 0
      · rw [if_pos c5] at H
        have c5b0 : (t295 == 0) = true := beq_iff_eq.mpr c5
        have c5b1 : (t295 != 0) = false := bne_eq_false_iff_eq.mpr c5
        clear c5
        by_cases c6 : t299 = 1
        · rw [if_pos c6] at H
          have c6b0 : (t299 == 1) = true := beq_iff_eq.mpr c6
          have c6b1 : (t299 != 1) = false := bne_eq_false_iff_eq.mpr c6
          clear c6
          obtain rfl := Option.some.inj H
          go_enter Tryd.func30, Tryd.ntmps30
          go_wp2_with (first | ((with_reducible refine gate_callee (f := 31) rfl ?_); refine goesL_ (some 8) rfl rfl Tryd.func31 (by kernel_rfl) rfl #[.string (⟨#[97, 58, 32, 49, 13, 10, 13, 10, 120]⟩ : ByteArray)] rfl (by (try simp only [List.map_toArray, List.map_cons, List.map_nil]); first | done | rfl | (simp only [List.length_drop, List.length_take]; rfl)) ?_; (with_reducible refine (block_Scan.calls (⟨#[97, 58, 32, 49, 13, 10, 13, 10, 120]⟩ : ByteArray) t293 t294 t295 _ ?side1 A1.out).mono ?_); (case side1 => first | exact hG | exact TabOk.drewN hG _ | exact TabOk.drewN (TabOk.drewN hG _) _ | exact TabOk.below hG (by repeat (first | (with_reducible first | exact HB.out | apply below_alloc | apply pw_below_drewN | apply below_drew1) | exact HB.out))); rintro e w7 ⟨v296, rfl, ho0, hb⟩; refine ⟨_, rfl, ?_⟩; have n0_ := Aside0.mk (Kd.R_lower ho0 (below_size (by repeat (first | (with_reducible first | exact HB.out | apply below_alloc | apply pw_below_drewN | apply below_drew1) | exact HB.out)))); have n1_ := Aside0.mk (below_step (by repeat (first | (with_reducible first | exact HB.out | apply below_alloc | apply pw_below_drewN | apply below_drew1) | exact HB.out)) hb); clear HB; have HO297 := n0_; have HB := n1_; clear n0_ n1_; (try clear hb); (try clear hb2); (try clear hk); (try clear hi); (try clear ho0)) | ((with_reducible refine gate_callee (f := 31) rfl ?_); refine goesL_ (some 13) rfl rfl Tryd.func31 (by kernel_rfl) rfl #[.string (⟨#[97, 32, 98]⟩ : ByteArray)] rfl (by (try simp only [List.map_toArray, List.map_cons, List.map_nil]); first | done | rfl | (simp only [List.length_drop, List.length_take]; rfl)) ?_; (with_reducible refine (block_Scan.calls (⟨#[97, 32, 98]⟩ : ByteArray) t298 t299 t300 _ ?side1 A2.out).mono ?_); (case side1 => first | exact hG | exact TabOk.drewN hG _ | exact TabOk.drewN (TabOk.drewN hG _) _ | exact TabOk.below hG (by repeat (first | (with_reducible first | exact HB.out | apply below_alloc | apply pw_below_drewN | apply below_drew1) | exact HB.out))); rintro e w8 ⟨v301, rfl, ho0, hb⟩; refine ⟨_, rfl, ?_⟩; have n0_ := Aside0.mk (Kd.R_elder' (by (with_reducible repeat (first | apply Kd.R_alloc | apply Kd.R_drewN | apply Kd.R_drew)); exact HO297.out) (Kd.R_base ho0) hb); have n1_ := Aside0.mk (Kd.R_lower (Kd.R_new' ho0 (Kd.R_lt (by (with_reducible repeat (first | apply Kd.R_alloc | apply Kd.R_drewN | apply Kd.R_drew)); exact HO297.out))) (below_size (by repeat (first | (with_reducible first | exact HB.out | apply below_alloc | apply pw_below_drewN | apply below_drew1) | exact HB.out)))); have n2_ := Aside0.mk (below_step (by repeat (first | (with_reducible first | exact HB.out | apply below_alloc | apply pw_below_drewN | apply below_drew1) | exact HB.out)) hb); clear HO297; clear HB; have HO297 := n0_; have HO302 := n1_; have HB := n2_; clear n0_ n1_ n2_; (try clear hb); (try clear hb2); (try clear hk); (try clear hi); (try clear ho0); obtain ⟨Ao9, co9, eo9⟩ := Kd.R_slice HO297.out; subst eo9))
          go_ret
          exact ⟨by first | rfl | (simp [errW_none, errW_some] <;> rfl) | (simp [*, errW_none, errW_some] <;> rfl), by repeat (first | (with_reducible first | exact HB.out | apply below_alloc | apply pw_below_drewN | apply below_drew1) | exact HB.out)⟩
        · rw [if_neg c6] at H
          have c6b0 : (t299 == 1) = false := beq_eq_false_iff_ne.mpr c6
          have c6b1 : (t299 != 1) = true := bne_iff_ne.mpr c6
          obtain rfl := Option.some.inj H
          go_enter Tryd.func30, Tryd.ntmps30
          go_wp2_with (first | ((with_reducible refine gate_callee (f := 31) rfl ?_); refine goesL_ (some 8) rfl rfl Tryd.func31 (by kernel_rfl) rfl #[.string (⟨#[97, 58, 32, 49, 13, 10, 13, 10, 120]⟩ : ByteArray)] rfl (by (try simp only [List.map_toArray, List.map_cons, List.map_nil]); first | done | rfl | (simp only [List.length_drop, List.length_take]; rfl)) ?_; (with_reducible refine (block_Scan.calls (⟨#[97, 58, 32, 49, 13, 10, 13, 10, 120]⟩ : ByteArray) t293 t294 t295 _ ?side1 A1.out).mono ?_); (case side1 => first | exact hG | exact TabOk.drewN hG _ | exact TabOk.drewN (TabOk.drewN hG _) _ | exact TabOk.below hG (by repeat (first | (with_reducible first | exact HB.out | apply below_alloc | apply pw_below_drewN | apply below_drew1) | exact HB.out))); rintro e w10 ⟨v296, rfl, ho0, hb⟩; refine ⟨_, rfl, ?_⟩; have n0_ := Aside0.mk (Kd.R_lower ho0 (below_size (by repeat (first | (with_reducible first | exact HB.out | apply below_alloc | apply pw_below_drewN | apply below_drew1) | exact HB.out)))); have n1_ := Aside0.mk (below_step (by repeat (first | (with_reducible first | exact HB.out | apply below_alloc | apply pw_below_drewN | apply below_drew1) | exact HB.out)) hb); clear HB; have HO297 := n0_; have HB := n1_; clear n0_ n1_; (try clear hb); (try clear hb2); (try clear hk); (try clear hi); (try clear ho0)) | ((with_reducible refine gate_callee (f := 31) rfl ?_); refine goesL_ (some 13) rfl rfl Tryd.func31 (by kernel_rfl) rfl #[.string (⟨#[97, 32, 98]⟩ : ByteArray)] rfl (by (try simp only [List.map_toArray, List.map_cons, List.map_nil]); first | done | rfl | (simp only [List.length_drop, List.length_take]; rfl)) ?_; (with_reducible refine (block_Scan.calls (⟨#[97, 32, 98]⟩ : ByteArray) t298 t299 t300 _ ?side1 A2.out).mono ?_); (case side1 => first | exact hG | exact TabOk.drewN hG _ | exact TabOk.drewN (TabOk.drewN hG _) _ | exact TabOk.below hG (by repeat (first | (with_reducible first | exact HB.out | apply below_alloc | apply pw_below_drewN | apply below_drew1) | exact HB.out))); rintro e w11 ⟨v301, rfl, ho0, hb⟩; refine ⟨_, rfl, ?_⟩; have n0_ := Aside0.mk (Kd.R_elder' (by (with_reducible repeat (first | apply Kd.R_alloc | apply Kd.R_drewN | apply Kd.R_drew)); exact HO297.out) (Kd.R_base ho0) hb); have n1_ := Aside0.mk (Kd.R_lower (Kd.R_new' ho0 (Kd.R_lt (by (with_reducible repeat (first | apply Kd.R_alloc | apply Kd.R_drewN | apply Kd.R_drew)); exact HO297.out))) (below_size (by repeat (first | (with_reducible first | exact HB.out | apply below_alloc | apply pw_below_drewN | apply below_drew1) | exact HB.out)))); have n2_ := Aside0.mk (below_step (by repeat (first | (with_reducible first | exact HB.out | apply below_alloc | apply pw_below_drewN | apply below_drew1) | exact HB.out)) hb); clear HO297; clear HB; have HO297 := n0_; have HO302 := n1_; have HB := n2_; clear n0_ n1_ n2_; (try clear hb); (try clear hb2); (try clear hk); (try clear hi); (try clear ho0); obtain ⟨Ao12, co12, eo12⟩ := Kd.R_slice HO297.out; subst eo12))
          go_ret
          exact ⟨by first | rfl | (simp [errW_none, errW_some] <;> rfl) | (simp [*, errW_none, errW_some] <;> rfl), by repeat (first | (with_reducible first | exact HB.out | apply below_alloc | apply pw_below_drewN | apply below_drew1) | exact HB.out)⟩
      · rw [if_neg c5] at H
        have c5b0 : (t295 == 0) = false := beq_eq_false_iff_ne.mpr c5
        have c5b1 : (t295 != 0) = true := bne_iff_ne.mpr c5
        obtain rfl := Option.some.inj H
        go_enter Tryd.func30, Tryd.ntmps30
        go_wp2_with (first | ((with_reducible refine gate_callee (f := 31) rfl ?_); refine goesL_ (some 8) rfl rfl Tryd.func31 (by kernel_rfl) rfl #[.string (⟨#[97, 58, 32, 49, 13, 10, 13, 10, 120]⟩ : ByteArray)] rfl (by (try simp only [List.map_toArray, List.map_cons, List.map_nil]); first | done | rfl | (simp only [List.length_drop, List.length_take]; rfl)) ?_; (with_reducible refine (block_Scan.calls (⟨#[97, 58, 32, 49, 13, 10, 13, 10, 120]⟩ : ByteArray) t293 t294 t295 _ ?side1 A1.out).mono ?_); (case side1 => first | exact hG | exact TabOk.drewN hG _ | exact TabOk.drewN (TabOk.drewN hG _) _ | exact TabOk.below hG (by repeat (first | (with_reducible first | exact HB.out | apply below_alloc | apply pw_below_drewN | apply below_drew1) | exact HB.out))); rintro e w13 ⟨v296, rfl, ho0, hb⟩; refine ⟨_, rfl, ?_⟩; have n0_ := Aside0.mk (Kd.R_lower ho0 (below_size (by repeat (first | (with_reducible first | exact HB.out | apply below_alloc | apply pw_below_drewN | apply below_drew1) | exact HB.out)))); have n1_ := Aside0.mk (below_step (by repeat (first | (with_reducible first | exact HB.out | apply below_alloc | apply pw_below_drewN | apply below_drew1) | exact HB.out)) hb); clear HB; have HO297 := n0_; have HB := n1_; clear n0_ n1_; (try clear hb); (try clear hb2); (try clear hk); (try clear hi); (try clear ho0)) | ((with_reducible refine gate_callee (f := 31) rfl ?_); refine goesL_ (some 13) rfl rfl Tryd.func31 (by kernel_rfl) rfl #[.string (⟨#[97, 32, 98]⟩ : ByteArray)] rfl (by (try simp only [List.map_toArray, List.map_cons, List.map_nil]); first | done | rfl | (simp only [List.length_drop, List.length_take]; rfl)) ?_; (with_reducible refine (block_Scan.calls (⟨#[97, 32, 98]⟩ : ByteArray) t298 t299 t300 _ ?side1 A2.out).mono ?_); (case side1 => first | exact hG | exact TabOk.drewN hG _ | exact TabOk.drewN (TabOk.drewN hG _) _ | exact TabOk.below hG (by repeat (first | (with_reducible first | exact HB.out | apply below_alloc | apply pw_below_drewN | apply below_drew1) | exact HB.out))); rintro e w14 ⟨v301, rfl, ho0, hb⟩; refine ⟨_, rfl, ?_⟩; have n0_ := Aside0.mk (Kd.R_elder' (by (with_reducible repeat (first | apply Kd.R_alloc | apply Kd.R_drewN | apply Kd.R_drew)); exact HO297.out) (Kd.R_base ho0) hb); have n1_ := Aside0.mk (Kd.R_lower (Kd.R_new' ho0 (Kd.R_lt (by (with_reducible repeat (first | apply Kd.R_alloc | apply Kd.R_drewN | apply Kd.R_drew)); exact HO297.out))) (below_size (by repeat (first | (with_reducible first | exact HB.out | apply below_alloc | apply pw_below_drewN | apply below_drew1) | exact HB.out)))); have n2_ := Aside0.mk (below_step (by repeat (first | (with_reducible first | exact HB.out | apply below_alloc | apply pw_below_drewN | apply below_drew1) | exact HB.out)) hb); clear HO297; clear HB; have HO297 := n0_; have HO302 := n1_; have HB := n2_; clear n0_ n1_ n2_; (try clear hb); (try clear hb2); (try clear hk); (try clear hi); (try clear ho0); obtain ⟨Ao15, co15, eo15⟩ := Kd.R_slice HO297.out; subst eo15))
        go_ret
        exact ⟨by first | rfl | (simp [errW_none, errW_some] <;> rfl) | (simp [*, errW_none, errW_some] <;> rfl), by repeat (first | (with_reducible first | exact HB.out | apply below_alloc | apply pw_below_drewN | apply below_drew1) | exact HB.out)⟩
    · rw [if_neg c4] at H
      have c4b0 : (t294 == 8) = false := beq_eq_false_iff_ne.mpr c4
      have c4b1 : (t294 != 8) = true := bne_iff_ne.mpr c4
      obtain rfl := Option.some.inj H
      go_enter Tryd.func30, Tryd.ntmps30
      go_wp2_with (first | ((with_reducible refine gate_callee (f := 31) rfl ?_); refine goesL_ (some 8) rfl rfl Tryd.func31 (by kernel_rfl) rfl #[.string (⟨#[97, 58, 32, 49, 13, 10, 13, 10, 120]⟩ : ByteArray)] rfl (by (try simp only [List.map_toArray, List.map_cons, List.map_nil]); first | done | rfl | (simp only [List.length_drop, List.length_take]; rfl)) ?_; (with_reducible refine (block_Scan.calls (⟨#[97, 58, 32, 49, 13, 10, 13, 10, 120]⟩ : ByteArray) t293 t294 t295 _ ?side1 A1.out).mono ?_); (case side1 => first | exact hG | exact TabOk.drewN hG _ | exact TabOk.drewN (TabOk.drewN hG _) _ | exact TabOk.below hG (by repeat (first | (with_reducible first | exact HB.out | apply below_alloc | apply pw_below_drewN | apply below_drew1) | exact HB.out))); rintro e w16 ⟨v296, rfl, ho0, hb⟩; refine ⟨_, rfl, ?_⟩; have n0_ := Aside0.mk (Kd.R_lower ho0 (below_size (by repeat (first | (with_reducible first | exact HB.out | apply below_alloc | apply pw_below_drewN | apply below_drew1) | exact HB.out)))); have n1_ := Aside0.mk (below_step (by repeat (first | (with_reducible first | exact HB.out | apply below_alloc | apply pw_below_drewN | apply below_drew1) | exact HB.out)) hb); clear HB; have HO297 := n0_; have HB := n1_; clear n0_ n1_; (try clear hb); (try clear hb2); (try clear hk); (try clear hi); (try clear ho0)) | ((with_reducible refine gate_callee (f := 31) rfl ?_); refine goesL_ (some 13) rfl rfl Tryd.func31 (by kernel_rfl) rfl #[.string (⟨#[97, 32, 98]⟩ : ByteArray)] rfl (by (try simp only [List.map_toArray, List.map_cons, List.map_nil]); first | done | rfl | (simp only [List.length_drop, List.length_take]; rfl)) ?_; (with_reducible refine (block_Scan.calls (⟨#[97, 32, 98]⟩ : ByteArray) t298 t299 t300 _ ?side1 A2.out).mono ?_); (case side1 => first | exact hG | exact TabOk.drewN hG _ | exact TabOk.drewN (TabOk.drewN hG _) _ | exact TabOk.below hG (by repeat (first | (with_reducible first | exact HB.out | apply below_alloc | apply pw_below_drewN | apply below_drew1) | exact HB.out))); rintro e w17 ⟨v301, rfl, ho0, hb⟩; refine ⟨_, rfl, ?_⟩; have n0_ := Aside0.mk (Kd.R_elder' (by (with_reducible repeat (first | apply Kd.R_alloc | apply Kd.R_drewN | apply Kd.R_drew)); exact HO297.out) (Kd.R_base ho0) hb); have n1_ := Aside0.mk (Kd.R_lower (Kd.R_new' ho0 (Kd.R_lt (by (with_reducible repeat (first | apply Kd.R_alloc | apply Kd.R_drewN | apply Kd.R_drew)); exact HO297.out))) (below_size (by repeat (first | (with_reducible first | exact HB.out | apply below_alloc | apply pw_below_drewN | apply below_drew1) | exact HB.out)))); have n2_ := Aside0.mk (below_step (by repeat (first | (with_reducible first | exact HB.out | apply below_alloc | apply pw_below_drewN | apply below_drew1) | exact HB.out)) hb); clear HO297; clear HB; have HO297 := n0_; have HO302 := n1_; have HB := n2_; clear n0_ n1_ n2_; (try clear hb); (try clear hb2); (try clear hk); (try clear hi); (try clear ho0); obtain ⟨Ao18, co18, eo18⟩ := Kd.R_slice HO297.out; subst eo18))
      go_ret
      exact ⟨by first | rfl | (simp [errW_none, errW_some] <;> rfl) | (simp [*, errW_none, errW_some] <;> rfl), by repeat (first | (with_reducible first | exact HB.out | apply below_alloc | apply pw_below_drewN | apply below_drew1) | exact HB.out)⟩
  · rw [if_neg c3] at H
    have c3b0 : ((t293.length : Int) == 1) = false := beq_eq_false_iff_ne.mpr c3
    have c3b1 : ((t293.length : Int) != 1) = true := bne_iff_ne.mpr c3
    obtain rfl := Option.some.inj H
    go_enter Tryd.func30, Tryd.ntmps30
    go_wp2_with (first | ((with_reducible refine gate_callee (f := 31) rfl ?_); refine goesL_ (some 8) rfl rfl Tryd.func31 (by kernel_rfl) rfl #[.string (⟨#[97, 58, 32, 49, 13, 10, 13, 10, 120]⟩ : ByteArray)] rfl (by (try simp only [List.map_toArray, List.map_cons, List.map_nil]); first | done | rfl | (simp only [List.length_drop, List.length_take]; rfl)) ?_; (with_reducible refine (block_Scan.calls (⟨#[97, 58, 32, 49, 13, 10, 13, 10, 120]⟩ : ByteArray) t293 t294 t295 _ ?side1 A1.out).mono ?_); (case side1 => first | exact hG | exact TabOk.drewN hG _ | exact TabOk.drewN (TabOk.drewN hG _) _ | exact TabOk.below hG (by repeat (first | (with_reducible first | exact HB.out | apply below_alloc | apply pw_below_drewN | apply below_drew1) | exact HB.out))); rintro e w19 ⟨v296, rfl, ho0, hb⟩; refine ⟨_, rfl, ?_⟩; have n0_ := Aside0.mk (Kd.R_lower ho0 (below_size (by repeat (first | (with_reducible first | exact HB.out | apply below_alloc | apply pw_below_drewN | apply below_drew1) | exact HB.out)))); have n1_ := Aside0.mk (below_step (by repeat (first | (with_reducible first | exact HB.out | apply below_alloc | apply pw_below_drewN | apply below_drew1) | exact HB.out)) hb); clear HB; have HO297 := n0_; have HB := n1_; clear n0_ n1_; (try clear hb); (try clear hb2); (try clear hk); (try clear hi); (try clear ho0)) | ((with_reducible refine gate_callee (f := 31) rfl ?_); refine goesL_ (some 13) rfl rfl Tryd.func31 (by kernel_rfl) rfl #[.string (⟨#[97, 32, 98]⟩ : ByteArray)] rfl (by (try simp only [List.map_toArray, List.map_cons, List.map_nil]); first | done | rfl | (simp only [List.length_drop, List.length_take]; rfl)) ?_; (with_reducible refine (block_Scan.calls (⟨#[97, 32, 98]⟩ : ByteArray) t298 t299 t300 _ ?side1 A2.out).mono ?_); (case side1 => first | exact hG | exact TabOk.drewN hG _ | exact TabOk.drewN (TabOk.drewN hG _) _ | exact TabOk.below hG (by repeat (first | (with_reducible first | exact HB.out | apply below_alloc | apply pw_below_drewN | apply below_drew1) | exact HB.out))); rintro e w20 ⟨v301, rfl, ho0, hb⟩; refine ⟨_, rfl, ?_⟩; have n0_ := Aside0.mk (Kd.R_elder' (by (with_reducible repeat (first | apply Kd.R_alloc | apply Kd.R_drewN | apply Kd.R_drew)); exact HO297.out) (Kd.R_base ho0) hb); have n1_ := Aside0.mk (Kd.R_lower (Kd.R_new' ho0 (Kd.R_lt (by (with_reducible repeat (first | apply Kd.R_alloc | apply Kd.R_drewN | apply Kd.R_drew)); exact HO297.out))) (below_size (by repeat (first | (with_reducible first | exact HB.out | apply below_alloc | apply pw_below_drewN | apply below_drew1) | exact HB.out)))); have n2_ := Aside0.mk (below_step (by repeat (first | (with_reducible first | exact HB.out | apply below_alloc | apply pw_below_drewN | apply below_drew1) | exact HB.out)) hb); clear HO297; clear HB; have HO297 := n0_; have HO302 := n1_; have HB := n2_; clear n0_ n1_ n2_; (try clear hb); (try clear hb2); (try clear hk); (try clear hi); (try clear ho0); obtain ⟨Ao21, co21, eo21⟩ := Kd.R_slice HO297.out; subst eo21))
    go_ret
    exact ⟨by first | rfl | (simp [errW_none, errW_some] <;> rfl) | (simp [*, errW_none, errW_some] <;> rfl), by repeat (first | (with_reducible first | exact HB.out | apply below_alloc | apply pw_below_drewN | apply below_drew1) | exact HB.out)⟩
end Go.Proofs.YtdkecmjoenfjdaaDoor.Pr
end
