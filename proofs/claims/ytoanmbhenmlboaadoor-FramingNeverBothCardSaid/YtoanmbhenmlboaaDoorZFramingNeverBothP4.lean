import Derived.Test.YtoanmbhenmlboaaDoorZFramingNeverBothP3
import Derived.Test.YtoanmbhenmlboaaDoorZFramingNeverBothP1
import Derived.Test.YtoanmbhenmlboaaDoorZFramingNeverBothP0
import Derived.Test.YtoanmbhenmlboaaDoorZFramingNeverBothP2
import Derived.RangeFuncNested
import Derived.RangeFuncBound
import Derived.RangeFuncCalls
import Derived.RangeFuncLeaves
import Derived.RangeFuncKeeps
import Derived.Shelf.RegionOpen
import Derived.WalkKit
import Derived.OwnWalkIn
import Derived.TacticsInMore
import Derived.LoopNIn
import Derived.LoopIn
import Derived.ControlIn
import Derived.Scope
import Derived.WalkMore
import Derived.Laws.EntriesVeiled
import Derived.Test.YtoanmbhenmlboaaDoorProg
import Derived.Below
import Derived.Deep.Draws
import Derived.Deep.AppendLies
import Derived.Maps.AppendAt
import Derived.OwnWalk
import Derived.Laws.BytesArg
import Derived.Laws.MakeOwn
import Derived.Laws.OwnMore
import Derived.Deep.OwnRows
import Derived.Tactics
import Derived.Lib.ConvBytes
import Derived.Laws.Slices
import Derived.KernelRfl
import Derived.RowKit3
import Derived.Deep.LoopGhost
import Derived.Deep.QuietTactic
import Derived.BigQuiet
import Derived.WideLaws
import Derived.Deep.DeepCutAuto
import Derived.Deep.CutBlock
import Derived.Deep.RegionHeld3
import Derived.Laws.Rows
import Derived.Lib.AppendStr
import Derived.ArgAppend
import Derived.Laws.IdiomCopy
import Derived.OrdersHeld
import Derived.Laws.BitsLemmas
import Derived.RowKit
section
namespace Go.Proofs.YtoanmbhenmlboaaDoorH
open Go.RowKit Go.Shelf Go.Proofs.YtoanmbhenmlboaaDoorW.PrintWords Go.Proofs.YtoanmbhenmlboaaDoorW.PrintLast Go.Proofs.YtoanmbhenmlboaaDoorW.PrintMore
attribute [local go_sem] Oper.semAt_some
def partsB (s : ByteArray) : List ByteArray := (splitL 44 s.data.toList).map fun l => ⟨l.toArray⟩
theorem partsB_none (s : ByteArray) (h : s.data.toList.findIdx (· == 44) = s.data.toList.length) : partsB s = [s] := by
  unfold partsB
  rw [splitL_none _ _ h]
  show [(⟨s.data.toList.toArray⟩ : ByteArray)] = [s]
  rw [show (⟨s.data.toList.toArray⟩ : ByteArray) = s from bytes_ext (by simp)]
theorem partsB_some (s : ByteArray) (k : Nat) (h : s.data.toList.findIdx (· == 44) = k) (hk : k < s.size) : partsB s = s.extract 0 k :: partsB (s.extract (k + 1) s.size) := by
  rw [size_eq_length] at hk
  have := splitL_some 44 s.data.toList (by rw [h]; exact hk)
  unfold partsB
  rw [this, List.map_cons, h, extract_from]
  congr 1
  exact bytes_ext (by rw [extract_to])
theorem partsB_length (s : ByteArray) : (partsB s).length ≤ s.size + 1 := by
  unfold partsB
  rw [List.length_map, size_eq_length]
  exact splitL_count _ _
theorem partsB_size (s : ByteArray) : ∀ p ∈ partsB s, p.size ≤ s.size := by
  intro p hp
  obtain ⟨l, hl, rfl⟩ := List.mem_map.1 hp
  rw [size_eq_length s]
  exact splitL_size 44 _ l hl
def szAt (W : World) (b : Nat) : Nat := match W.cell? ⟨b, 0, none⟩ with | some (.string s) => s.size | _ => 0
theorem szAt_box {W : World} {b : Nat} {t : TypeId} {s : ByteArray} (h : Boxed W b t (.string s)) : szAt W b = s.size := by
  unfold szAt
  rw [h.cell]
theorem splitSeq_calls (s p : ByteArray) (k : Int) (w : World) :
    Calls Tryd.prog 81 #[.string s, .string p, .int .i64 k] w fun e w' => e = .returned (.func (.func 85) #[] #[.pointer (some ⟨w.heap.size + 1, 0, none⟩), .pointer (some ⟨w.heap.size, 0, none⟩), .pointer (some ⟨w.heap.size + 2, 0, none⟩)]) ∧
      w' = ((w.alloc (.cells #[.string s] 9)).alloc (.cells #[.string p] 9)).alloc (.cells #[.int .i64 k] 3) := by
  go_enter Tryd.func81, Tryd.ntmps81
  go_wp2
  go_ret
  exact ⟨rfl, rfl⟩
theorem SplitSeq_calls (s p : ByteArray) (w : World) :
    Calls Tryd.prog 74 #[.string s, .string p] w fun e w' => e = .returned (.func (.func 85) #[] #[.pointer (some ⟨w.heap.size + 1, 0, none⟩), .pointer (some ⟨w.heap.size, 0, none⟩), .pointer (some ⟨w.heap.size + 2, 0, none⟩)]) ∧
      w' = ((w.alloc (.cells #[.string s] 9)).alloc (.cells #[.string p] 9)).alloc (.cells #[.int .i64 0] 3) := by
  have H := Aside0.mk (splitSeq_calls s p 0 w)
  go_enter Tryd.func74, Tryd.ntmps74
  go_wp2_with fail
  refine H.out.mono ?_
  rintro e w' ⟨rfl, rfl⟩
  go_wp2
  go_ret
  exact ⟨rfl, rfl⟩
def Kz3 (n a b c : Nat) (k : Nat) : Prop := k < n ∨ k = a ∨ k = b ∨ k = c
set_option maxRecDepth 100000 in
set_option maxHeartbeats 2000000 in
theorem split_own (n : Nat) (hn : 1 ≤ n) (Bp Bs Bk : Nat) (s : ByteArray) (hs : s.size < 4294967281) (w : World) (hG : TabOk w) (W0 : World) (hw0 : Lies (fun k => k < w.heap.size) w W0)
    (hp0 : Boxed W0 Bp 9 (.string ⟨#[44]⟩)) (hs0 : Boxed W0 Bs 9 (.string s)) (hk0 : Boxed W0 Bk 3 (.int .i64 0)) (hne : Bp ≠ Bs) (hne2 : Bk ≠ Bs) (hBs : w.heap.size ≤ Bs) :
    SeqO Fence.wide n Tryd.prog 85 #[.pointer (some ⟨Bp, 0, none⟩), .pointer (some ⟨Bs, 0, none⟩), .pointer (some ⟨Bk, 0, none⟩)] (fun x : ByteArray => #[.string x]) (Kz3 w.heap.size Bp Bs Bk) (fun k => k = Bs) (fun ys => ys = partsB s) (fun pre => pre <+: partsB s) W0 := by
  intro l J Jx g0 W hW hJ hJx hg0 hY h0
  have hw1 : Lies (fun k => k < w.heap.size) w W := hw0.trans (Lies.below hW)
  have hp : Boxed W Bp 9 (.string ⟨#[44]⟩) := (hW.block _ hp0.lt).trans hp0
  have hsb : Boxed W Bs 9 (.string s) := (hW.block _ hs0.lt).trans hs0
  have hk : Boxed W Bk 3 (.int .i64 0) := (hW.block _ hk0.lt).trans hk0
  have l1 := hp.lt
  have l2 := hsb.lt
  have l3 := hk.lt
  have l4 := hw1.size
  clear hW hp0 hs0 hk0 hw0
  have hpc := hp.cell
  refine callsIn_of_wp Tryd.func85 rfl trivial ?_ rfl
  simp only [Tryd.ntmps85, List.size_toArray, List.length_cons, List.length_nil, Nat.reduceAdd, Nat.reduceSub, Array.replicate_succ, Array.replicate_zero, List.push_toArray, List.append_toArray, List.nil_append, List.cons_append]
  gi_wp2
  gi_loopw [7] (fun v7 wr => ∃ (r : ByteArray) (pre : List ByteArray) (g : Option Nat), r.size ≤ s.size ∧ Aside0 (partsB s = pre ++ partsB r) ∧ Aside0 (J pre g wr) ∧ Aside0 (∀ q, g = some q → ¬ Kz3 w.heap.size Bp Bs Bk q) ∧ Aside0 (Lies (fun k => (k < w.heap.size ∨ k = Bp) ∨ k = Bk) W wr) ∧ Aside0 (Boxed wr Bs 9 (.string r)))
    (fun _ wr => szAt wr Bs)
  case atStart => exact ⟨s, [], g0, Nat.le_refl _, ⟨rfl⟩, ⟨h0⟩, ⟨fun q e => (hg0 q e).1⟩, ⟨Lies.refl _ _⟩, ⟨hsb⟩⟩
  case round =>
    obtain ⟨r, pre, g, hrs, hE, hJs, hgq, hnx, hbx⟩ := hrel
    have hcp := (hnx.out.box (.inl (.inr rfl)) hp).cell
    have hck := (hnx.out.box (.inr rfl) hk).cell
    have hcs := hbx.out.cell
    obtain ⟨m, hm⟩ := (hG.lies hw1 (fun k hk => .inl (.inl hk)) hnx.out).mx
    have HC := Aside0.mk (Tryd.strings_Index r (⟨#[44]⟩ : ByteArray) m wr (by omega) hm)
    rw [show (⟨#[44]⟩ : ByteArray).data.toList = [44] from rfl, index_at] at HC
    obtain ⟨k, hkk⟩ : ∃ k, r.data.toList.findIdx (· == 44) = k := ⟨_, rfl⟩
    have hkle : k ≤ r.data.toList.length := by rw [← hkk]; exact List.findIdx_le_length
    rw [← size_eq_length] at hkle
    clear hm
    by_cases hlt : k < r.size
    · rw [hkk, ← size_eq_length, if_pos hlt] at HC
      have HP := Aside0.mk (partsB_some r k hkk hlt)
      clear hkk
      gi_wp2
      refine ⟨trivial, ?_⟩
      refine (callsIn_wide.2 HC.out).mono ?_
      rintro e w1 ⟨rfl, rfl⟩
      have HPP := Aside0.mk (show pre ++ [r.extract 0 k] <+: partsB s by rw [hE.out, HP.out]; exact ⟨_, by rw [List.append_assoc]; rfl⟩)
      obtain ⟨fn, tmps, assign, body, hy, hR⟩ := hY (n - 1) pre (r.extract 0 k) g w1 hJs.out HPP.out
      have HR := Aside0.mk hR
      clear hR HC
      gi_wp2
      refine HR.out.mono ?_
      rintro e W3 ⟨g', hsp, (⟨rfl, hJ3⟩ | ⟨rfl, hJx3⟩)⟩
      · have HJ3 := Aside0.mk hJ3
        have hlz : ∀ k, (((k < w.heap.size ∨ k = Bp) ∨ k = Bk) ∨ k = Bs) → k < w1.heap.size → (W.heap.size ≤ k ∨ Kz3 w.heap.size Bp Bs Bk k) ∧ some k ≠ g := fun k hk _ => by
          have hz : Kz3 w.heap.size Bp Bs Bk k := by
            unfold Kz3
            rcases hk with ((hk | hk) | hk) | hk
            · exact .inl hk
            · exact .inr (.inl hk)
            · exact .inr (.inr (.inr hk))
            · exact .inr (.inr (.inl hk))
          exact ⟨.inr hz, fun e => hgq.out k e.symm hz⟩
        have HL3 := Aside0.mk (hsp.lies hlz)
        have HG3 := Aside0.mk (hsp.not (Kz := Kz3 w.heap.size Bp Bs Bk) (fun k hk => by have := hnx.out.size; unfold Kz3 at hk; rcases hk with hk | hk | hk | hk <;> omega) hgq.out)
        have hb3 := HL3.out.box (.inr rfl) hbx.out
        have hl3 := HL3.out.imp (K' := fun k => (k < w.heap.size ∨ k = Bp) ∨ k = Bk) (fun k h => .inl h)
        have HX3 := Aside0.mk (hnx.out.trans hl3)
        have hcs3 := hb3.cell
        have hcf3 := hb3.frozen
        have hcp3 := (HX3.out.box (.inl (.inr rfl)) hp).cell
        have hz : (r.extract (k + 1) r.size).size = r.size - (k + 1) := by rw [size_eq_length, extract_from, List.length_drop, ← size_eq_length]
        have HB4 := Aside0.mk (hb3.set (.string (r.extract (k + 1) r.size)))
        have HJ4 := Aside0.mk (hJ _ _ _ _ _ HJ3.out (grownBy_setCell' W3 Bs (.string (r.extract (k + 1) r.size))) (fun q e => .inr (by cases e; rfl)))
        have HL4 := Aside0.mk (HX3.out.trans (Lies.grown (K := fun k => (k < w.heap.size ∨ k = Bp) ∨ k = Bk) (grownBy_setCell' W3 Bs (.string (r.extract (k + 1) r.size))) (fun q e h => by cases e; rcases h with (h | h) | h <;> omega)))
        have HZ := Aside0.mk (szAt_box hbx.out)
        have HZ4 := Aside0.mk (szAt_box HB4.out)
        clear hsp hJ3 hlz hb3 hl3
        gi_wp2
        go_roundw
        case rel => exact ⟨r.extract (k + 1) r.size, pre ++ [r.extract 0 k], g', by omega, ⟨by rw [hE.out, HP.out, List.append_assoc]; rfl⟩, HJ4, HG3, HL4, HB4⟩
        case measure => first | (rw [HZ.out, HZ4.out]; omega) | (simp only [HZ.out, HZ4.out]; omega)
      · gi_wp2
        refine bodyPost_ret (results_none rfl _ _ _) rfl ?_
        exact ⟨⟨_, rfl⟩, .inr ⟨_, g', HPP.out, hJx3⟩⟩
    · rw [hkk, ← size_eq_length, if_neg hlt] at HC
      have HP := Aside0.mk (partsB_none r (by rw [hkk, ← size_eq_length]; omega))
      clear hkk
      gi_wp2
      refine ⟨trivial, ?_⟩
      refine (callsIn_wide.2 HC.out).mono ?_
      rintro e w1 ⟨rfl, rfl⟩
      have HPP := Aside0.mk (show pre ++ [r] <+: partsB s by rw [hE.out, HP.out]; exact ⟨[], by rw [List.append_nil]⟩)
      have HE2 := Aside0.mk (show partsB s = pre ++ [r] by rw [hE.out, HP.out])
      obtain ⟨fn, tmps, assign, body, hy, hR⟩ := hY (n - 1) pre r g w1 hJs.out HPP.out
      have HR := Aside0.mk hR
      clear hR HC
      gi_wp2
      refine HR.out.mono ?_
      rintro e W3 ⟨g', hsp, (⟨rfl, hJ3⟩ | ⟨rfl, hJx3⟩)⟩
      · gi_wp2
        go_end0
        exact ⟨⟨_, rfl⟩, .inl ⟨_, g', rfl, by rw [HE2.out]; exact hJ3⟩⟩
      · gi_wp2
        go_end0
        exact ⟨⟨_, rfl⟩, .inr ⟨_, g', HPP.out, hJx3⟩⟩
end Go.Proofs.YtoanmbhenmlboaaDoorH
end
section
namespace Go.Proofs.YtoanmbhenmlboaaDoorH
open Go
theorem stepR_scope {P : Program} {b : Frame} {a : Act} {k : List Item} {cs : List Frame} {w : World} {c : Code} : step P (lone (b.atR a (.code (.scope c) :: k)) cs w) = .next (lone (b.atR a (.code c :: .inScope c :: k)) cs w) :=
  step_lone_go (by simp [stepG, stepG.exec, Frame.atR])
theorem stepR_inScope {P : Program} {b : Frame} {a : Act} {k : List Item} {cs : List Frame} {w : World} {c : Code} : step P (lone (b.atR a (.inScope c :: k)) cs w) = .next (lone (b.atR a k) cs w) :=
  step_lone_go (by simp [stepG, stepG.exec, Frame.atR])
theorem wpIn_scope_straight {F : Fence} {n : Nat} {P : Program} {Q : Exit → Act → World → Prop} {a : Act} {w : World} {c : Code} (h : c.wpIn F n P (Exit.noGoto Q) a w) : (Code.scope c).wpIn F n P Q a w := by
  intro b k cs hro hb hr
  have h0 : (lone (b.atR a (.code (.scope c) :: k)) cs w).fenced P F := fenced_calm hb hr rfl
  obtain ⟨e, a₁, w₁, hq, harr⟩ := h b (.inScope c :: k) cs hro hb hr
  cases e with
  | normal => exact ⟨.normal, a₁, w₁, hq, .head h0 stepR_scope (StepsIn.trans harr (.one (fenced_calm hb hr rfl) stepR_inScope))⟩
  | exit id =>
    have hx : exitTo id (.inScope c :: k) = exitTo id k := by simp [exitTo]
    exact ⟨.exit id, a₁, w₁, hq, fun k' hk => .head h0 stepR_scope (harr.1 k' (by rw [hx]; exact hk)),
      fun hr' hk => let ⟨k₁, h1, h2⟩ := harr.2 hr' (by rw [hx]; exact hk); ⟨k₁, h1, .head h0 stepR_scope h2⟩⟩
  | goto l => exact hq.elim
  | ret => exact ⟨_, a₁, w₁, hq, .of_steps (.one h0 stepR_scope) (show ArrivesIn _ _ _ _ k _ _ _ _ from harr)⟩
  | panic ch => exact ⟨_, a₁, w₁, hq, .of_steps (.one h0 stepR_scope) (show ArrivesIn _ _ _ _ k _ _ _ _ from harr)⟩
  | outgrown => exact ⟨_, a₁, w₁, hq, .of_steps (.one h0 stepR_scope) (show ArrivesIn _ _ _ _ k _ _ _ _ from harr)⟩
end Go.Proofs.YtoanmbhenmlboaaDoorH
end
section
namespace Go.Proofs.YtoanmbhenmlboaaDoorH
open Go Go.RowKit Go.Proofs.YtoanmbhenmlboaaDoorW.PrintWords Go.Proofs.YtoanmbhenmlboaaDoorW.PrintLast Go.Proofs.YtoanmbhenmlboaaDoorW.PrintMore
def Halted (p : Prop) : Prop := p
theorem halt {p : Prop} (h : Halted p) : p := h
theorem unhalt {p : Prop} (h : p) : Halted p := h
theorem in_append {F : Fence} {n : Nat} {P : Program} {ops : Array Oper} {rest : List Oper} {o : Oper} {a : Act} {Q : Exit → Act → World → Prop} {W : World} (base : Nat) (hgd : o.guard = none) (s x : Operand) (t e : TypeId) (z : Value) (size bytes : Nat)
    (ho : o.op = .call { callee := .builtin .append, args := #[s, x], argTypes := #[t, t] })
    (ht : P.underlying t = some (.slice e)) (hinfo : (P.info? e).map (fun i => (i.zero, i.size, i.bytes)) = some (some z, size, bytes)) (hz : z.cells.size = size) (hs0 : 0 < size) (hb0 : 0 < bytes)
    (v : Value) (k : Nat) (xs ys : List Value) (hs : a.eval s = v) (hx : a.eval x = .slice (some ⟨W.heap.size, 0, none⟩) 1 1) (hys : ys.length = size) (h1 : ∀ u ∈ ys, u.oneCell' = true)
    (HO : W.ownsRow base e size v k xs) (hbase : base ≤ W.heap.size) (hl : (k + 1) * bytes ≤ 140737488355328)
    (h : ∀ v1 w1, w1.ownsRow base e size v1 (k + 1) (xs ++ ys) → W.grownBy w1 v.ownBlock → (v1.ownBlock = v.ownBlock ∨ ∃ b, v1.ownBlock = some b ∧ W.heap.size ≤ b) → wpListIn F n P ops Q rest (a.put o.dst v1) w1) :
    wpListIn F n P ops Q (o :: rest) a (W.alloc (.cells ys.toArray e)) := by
  obtain ⟨i0, hi, hzz⟩ := Option.map_eq_some_iff.1 hinfo
  simp only [Prod.mk.injEq] at hzz
  obtain ⟨hz0, hz1, hz2⟩ := hzz
  have hlen : k + 1 ≤ 140737488355328 := Nat.le_trans (Nat.le_mul_of_pos_right _ hb0) hl
  refine wpListIn_plain hgd fun K hK' => ?_
  obtain ⟨v1, w1, hr, hown, hg, _, hat⟩ := run_append_own_at (P := P) (W.alloc (.cells ys.toArray e)) base t o.type e i0 z size bytes ht hi hz0 hz1 hz2 hz hs0 v k xs (HO.alloc _) ⟨W.heap.size, 0, none⟩ 1 1 ys (by rw [hys]; simp)
    (by simpa using World.news_of_block (cs := ys.toArray) (t := e) (fr := (0, 0)) (heap_alloc_new W (.cells ys.toArray e))) h1 (by simp only [maxLen]; omega) hl (by simp; omega)
  unfold Oper.wpIn
  refine ⟨?_, ?_⟩
  · simp [Oper.about, ho, resolve, Target.leads, Sem.run_pure]
  · rw [Oper.semAt_plain F _ _ (by rw [ho]; intro c hc'; cases hc')]
    simp [execOp, ho, resolve, invoke, builtin, hs, hx, hr, Result.andThen]
    refine hK' _ _ (h v1 w1 hown (World.grownBy.trans (World.grownBy_alloc W _ _) hg) ?_)
    rcases hat with hat | hat
    · exact .inl hat
    · exact .inr ⟨_, hat, by simp⟩
theorem any_append {F : Fence} {n : Nat} {P : Program} {ops : Array Oper} {o : Oper} {a : Act} {Q : Exit → Act → World → Prop} {K : Act → World → Prop} {W : World} (base : Nat) (hw : Region.wanted o (yielded ops a.tmps) = true) (s x : Operand) (t e : TypeId) (z : Value) (size bytes : Nat)
    (ho : o.op = .call { callee := .builtin .append, args := #[s, x], argTypes := #[t, t] })
    (ht : P.underlying t = some (.slice e)) (hinfo : (P.info? e).map (fun i => (i.zero, i.size, i.bytes)) = some (some z, size, bytes)) (hz : z.cells.size = size) (hs0 : 0 < size) (hb0 : 0 < bytes)
    (v : Value) (k : Nat) (xs ys : List Value) (hs : a.eval s = v) (hx : a.eval x = .slice (some ⟨W.heap.size, 0, none⟩) 1 1) (hys : ys.length = size) (h1 : ∀ u ∈ ys, u.oneCell' = true)
    (HO : W.ownsRow base e size v k xs) (hbase : base ≤ W.heap.size) (hl : (k + 1) * bytes ≤ 140737488355328)
    (h : ∀ v1 w1, w1.ownsRow base e size v1 (k + 1) (xs ++ ys) → W.grownBy w1 v.ownBlock → (v1.ownBlock = v.ownBlock ∨ ∃ b, v1.ownBlock = some b ∧ W.heap.size ≤ b) → K (a.put o.dst v1) w1) :
    if Region.wanted o (yielded ops a.tmps) = true then Oper.wpIn F n P o a (W.alloc (.cells ys.toArray e)) K Q else (∀ f, o.about P (W.alloc (.cells ys.toArray e)) a.eval = some f → F.fn f) ∧ K (a.put o.dst undef) (W.alloc (.cells ys.toArray e)) := by
  obtain ⟨i0, hi, hzz⟩ := Option.map_eq_some_iff.1 hinfo
  simp only [Prod.mk.injEq] at hzz
  obtain ⟨hz0, hz1, hz2⟩ := hzz
  have hlen : k + 1 ≤ 140737488355328 := Nat.le_trans (Nat.le_mul_of_pos_right _ hb0) hl
  rw [if_pos hw]
  obtain ⟨v1, w1, hr, hown, hg, _, hat⟩ := run_append_own_at (P := P) (W.alloc (.cells ys.toArray e)) base t o.type e i0 z size bytes ht hi hz0 hz1 hz2 hz hs0 v k xs (HO.alloc _) ⟨W.heap.size, 0, none⟩ 1 1 ys (by rw [hys]; simp)
    (by simpa using World.news_of_block (cs := ys.toArray) (t := e) (fr := (0, 0)) (heap_alloc_new W (.cells ys.toArray e))) h1 (by simp only [maxLen]; omega) hl (by simp; omega)
  unfold Oper.wpIn
  refine ⟨?_, ?_⟩
  · simp [Oper.about, ho, resolve, Target.leads, Sem.run_pure]
  · rw [Oper.semAt_plain F _ _ (by rw [ho]; intro c hc'; cases hc')]
    simp [execOp, ho, resolve, invoke, builtin, hs, hx, hr, Result.andThen]
    refine h v1 w1 hown (World.grownBy.trans (World.grownBy_alloc W _ _) hg) ?_
    rcases hat with hat | hat
    · exact .inl hat
    · exact .inr ⟨_, hat, by simp⟩
theorem row_of_owns {α : Type} (d : Kd α) (enc : α → List Value) {e : Nat} {w : World} {base : Nat} {v : Value} {xs : List α} (hl : ∀ x, (enc x).length = d.sz) (hM : ∀ ok x, d.M w base ok x (enc x))
    (h : w.ownsRow base e d.sz v xs.length (xs.flatMap enc)) : d.R e w base (fun _ => True) v xs := by
  refine ⟨fun _ _ => trivial, xs.flatMap enc, h, ?_⟩
  clear h
  have key : ∀ (l r : List α) (inner : List Value), Reps (d.M w base (fun k => True ∧ some k ≠ v.ownBlock)) d.sz l inner → Reps (d.M w base (fun k => True ∧ some k ≠ v.ownBlock)) d.sz (l ++ r) (inner ++ r.flatMap enc) := by
    intro l r
    induction r generalizing l with
    | nil => intro inner h; simpa using h
    | cons x r ih =>
      intro inner h
      have := ih (l ++ [x]) (inner ++ enc x) (h.snoc (hM _ x) (hl x))
      simpa using this
  have := key [] xs [] (Reps.none _ _)
  simpa using this
theorem owns_slice2 {w : World} {base : Nat} {e : TypeId} {size : Nat} {v : Value} {k : Nat} {xs : List Value} (h : w.ownsRow base e size v k xs) : ∃ (a : Option Addr) (c : Nat), v = .slice a k c ∧ k ≤ c := by
  rcases h.2 with ⟨rfl, rfl⟩ | ⟨g, cap, cur, rfl, _, _, hc, _⟩
  · exact ⟨_, _, rfl, Nat.le_refl _⟩
  · exact ⟨_, _, rfl, hc⟩
theorem closed2 {W : World} {n₀ b1 b2 D : Nat} {t1 t2 : TypeId} {u1 u2 : Value} (h1 : Boxed W b1 t1 u1) (h2 : Boxed W b2 t2 u2) (hne : b1 ≠ b2) (hb1 : n₀ ≤ b1) (hb2 : n₀ ≤ b2) (hD : n₀ ≤ D) (hK : W.heap[D]? = some (.deferred (some []))) (v1 v2 : Value) :
    ((W.setCell ⟨b1, 0, none⟩ v1).setCell ⟨b2, 0, none⟩ v2).heap[D]? = some (.deferred (some [])) ∧
    Boxed (((W.setCell ⟨b1, 0, none⟩ v1).setCell ⟨b2, 0, none⟩ v2).putObj D (.deferred none)) b1 t1 v1 ∧
    Boxed (((W.setCell ⟨b1, 0, none⟩ v1).setCell ⟨b2, 0, none⟩ v2).putObj D (.deferred none)) b2 t2 v2 ∧
    Below n₀ W (((W.setCell ⟨b1, 0, none⟩ v1).setCell ⟨b2, 0, none⟩ v2).putObj D (.deferred none)) ∧
    ∀ {e : TypeId} {size : Nat} {v : Value} {k : Nat} {xs : List Value}, t1 ≠ e → t2 ≠ e → W.ownsRow n₀ e size v k xs → (((W.setCell ⟨b1, 0, none⟩ v1).setCell ⟨b2, 0, none⟩ v2).putObj D (.deferred none)).ownsRow n₀ e size v k xs := by
  have hn1 : D ≠ b1 := by
    rintro rfl
    have := hK.symm.trans h1
    cases this
  have hn2 : D ≠ b2 := by
    rintro rfl
    have := hK.symm.trans h2
    cases this
  have h1a : Boxed (W.setCell ⟨b1, 0, none⟩ v1) b1 t1 v1 := h1.set v1
  have h2a : Boxed (W.setCell ⟨b1, 0, none⟩ v1) b2 t2 u2 := h2.other (fun e => hne e.symm) v1
  have hk1 : ((W.setCell ⟨b1, 0, none⟩ v1).setCell ⟨b2, 0, none⟩ v2).heap[D]? = some (.deferred (some [])) := ((Below.heap_setCell _ _ _ D hn2).trans (Below.heap_setCell W _ _ D hn1)).trans hK
  have hlt := (Array.getElem?_eq_some_iff.1 hk1).1
  refine ⟨hk1, (h1a.other hne v2).kept (grownBy_putObj' _ _ _) (fun h => hn1 (by cases h; rfl)), (h2a.set v2).kept (grownBy_putObj' _ _ _) (fun h => hn2 (by cases h; rfl)), ?_, ?_⟩
  · exact (((Below.refl n₀ W).setCell (p := ⟨b1, 0, none⟩) hb1 v1).setCell (p := ⟨b2, 0, none⟩) hb2 v2).grown (grownBy_putObj' _ _ _) (by omega) (fun j ej => by cases ej; exact hD)
  · intro e size v k xs he1 he2 hrow
    have hr1 := hrow.kept (grownBy_setCell' W b1 v1) (.inr (h1.not_row he1 hrow).symm)
    have hr2 := hr1.kept (grownBy_setCell' _ b2 v2) (.inr (h2a.not_row he2 hr1).symm)
    exact ownsRow_putObj hr2 _ hk1 rfl
end Go.Proofs.YtoanmbhenmlboaaDoorH
end
section
namespace Go.Proofs.YtoanmbhenmlboaaDoorH
open Go.RowKit Go.Shelf Go.Proofs.YtoanmbhenmlboaaDoorW.PrintWords Go.Proofs.YtoanmbhenmlboaaDoorW.PrintLast Go.Proofs.YtoanmbhenmlboaaDoorW.PrintMore
attribute [local go_sem] Oper.semAt_some
def itemsP (s : ByteArray) : List ByteArray := ((partsB s).map trimS).filter fun x => decide (x.size ≠ 0)
def partItem (p : ByteArray) : List ByteArray := if (trimS p).size = 0 then [] else [trimS p]
theorem itemsP_flat (s : ByteArray) : itemsP s = (partsB s).flatMap partItem := by
  unfold itemsP
  induction partsB s with
  | nil => rfl
  | cons p l ih =>
    rw [List.map_cons, List.flatMap_cons, partItem]
    by_cases h : (trimS p).size = 0
    · rw [if_pos h, List.filter_cons_of_neg (by simpa using h), ih]; rfl
    · rw [if_neg h, List.filter_cons_of_pos (by simpa using h), ih]; rfl
def itemsF : Nat → List ByteArray → List (Nat × ByteArray)
  | _, [] => []
  | i, v :: l => ((itemsP v).map fun x => (i, x)) ++ itemsF (i + 1) l
theorem itemsF_take : ∀ (l : List ByteArray) (i k : Nat), k < l.length → itemsF i (l.take (k + 1)) = itemsF i (l.take k) ++ ((itemsP (l.getD k ByteArray.empty)).map fun x => (i + k, x))
  | [], i, k, h => absurd h (Nat.not_lt_zero _)
  | v :: l, i, 0, _ => by simp [itemsF]
  | v :: l, i, k + 1, h => by
    have ih := itemsF_take l (i + 1) k (by simpa using h)
    rw [List.take_succ_cons, itemsF, ih, List.take_succ_cons, itemsF, List.append_assoc, show i + 1 + k = i + (k + 1) by omega]
    rfl
theorem flat_prefix {a b : List ByteArray} (h : a <+: b) : a.flatMap partItem <+: b.flatMap partItem := by
  obtain ⟨r, rfl⟩ := h
  exact ⟨r.flatMap partItem, by rw [List.flatMap_append]⟩
theorem itemsF_drop : ∀ (l : List ByteArray) (i k : Nat), k ≤ l.length → itemsF i l = itemsF i (l.take k) ++ itemsF (i + k) (l.drop k)
  | l, i, 0, _ => by simp [itemsF]
  | [], i, k + 1, h => absurd h (by simp)
  | v :: l, i, k + 1, h => by
    have ih := itemsF_drop l (i + 1) k (by simpa using h)
    rw [itemsF, ih, List.take_succ_cons, itemsF, List.append_assoc, List.drop_succ_cons, show i + 1 + k = i + (k + 1) by omega]
def soFar (xs : List ByteArray) (k : Nat) (pre : List ByteArray) : List (Nat × ByteArray) := itemsF 0 (xs.take k) ++ ((pre.flatMap partItem).map fun y => (k, y))
theorem soFar_prefix (xs : List ByteArray) (k : Nat) (hk : k < xs.length) (x : ByteArray) (hT : itemsF 0 (xs.take (k + 1)) = itemsF 0 (xs.take k) ++ ((itemsP x).map fun y => (0 + k, y))) (pre : List ByteArray) (h : pre <+: partsB x) : soFar xs k pre <+: itemsF 0 xs := by
  obtain ⟨r, hr⟩ := flat_prefix h
  rw [itemsF_drop xs 0 (k + 1) (by omega), hT, itemsP_flat, ← hr, List.map_append]
  refine ⟨(r.map fun y => (0 + k, y)) ++ itemsF (0 + (k + 1)) (xs.drop (k + 1)), ?_⟩
  unfold soFar
  simp only [Nat.zero_add, List.append_assoc]
theorem soFar_snoc_nil (xs : List ByteArray) (k : Nat) (pre : List ByteArray) (p : ByteArray) (h : (trimS p).size = 0) : soFar xs k (pre ++ [p]) = soFar xs k pre := by
  unfold soFar
  rw [List.flatMap_append, List.flatMap_singleton, partItem, if_pos h, List.append_nil]
theorem soFar_snoc (xs : List ByteArray) (k : Nat) (pre : List ByteArray) (p : ByteArray) (h : ¬ (trimS p).size = 0) : soFar xs k (pre ++ [p]) = soFar xs k pre ++ [(k, trimS p)] := by
  unfold soFar
  rw [List.flatMap_append, List.flatMap_singleton, partItem, if_neg h, List.map_append, List.append_assoc]
  rfl
theorem soFar_whole (xs : List ByteArray) (k : Nat) (x : ByteArray) (hT : itemsF 0 (xs.take (k + 1)) = itemsF 0 (xs.take k) ++ ((itemsP x).map fun y => (0 + k, y))) : soFar xs k (partsB x) = itemsF 0 (xs.take (k + 1)) := by
  unfold soFar
  rw [hT, itemsP_flat, Nat.zero_add]
def KrI (n Bv Y r : Nat) (g : Option Nat) (j : Nat) : Prop := (j < n ∨ j = Bv) ∨ (Y ≤ j ∧ j ≤ r ∧ some j ≠ g)
def gF (g : Option Nat) (m : Nat) (g' : Option Nat) : Prop := ∀ q, g' = some q → some q = g ∨ m ≤ q
theorem gF.step {g g' g'' : Option Nat} {m : Nat} {K : Nat → Prop} {A B : World} (h : gF g m g') (hs : Spares K g' g'' A B) (hm : m ≤ A.heap.size) : gF g m g'' := by
  intro q e
  rcases hs.own with e' | ⟨b, e', hb, _⟩
  · exact h q (e' ▸ e)
  · rw [e] at e'; cases e'; exact .inr (by omega)
def encI (x : Nat × ByteArray) : Array Value := #[.int .i64 (x.1 : Int), .string x.2]
theorem items_calls (A0 : Option Addr) (n c : Nat) (w : World) :
    Calls Tryd.prog 57 #[.slice A0 n c] w fun e w' => e = .returned (.func (.func 73) #[] #[.pointer (some ⟨w.heap.size, 0, none⟩)]) ∧ w' = w.alloc (.cells #[.slice A0 n c] 38) := by
  go_enter Tryd.func57, Tryd.ntmps57
  go_wp2
  go_ret
  exact ⟨rfl, rfl⟩
def Marked (B : Nat) (ds : List Deferred) (g : Option Nat) (W : World) : Prop :=
  ∃ Ds : List Nat, ds = Ds.map (fun D => ({ target := .collected D, args := #[] } : Deferred)) ∧ Ds.Nodup ∧ ∀ D ∈ Ds, W.heap[D]? = some (.deferred (some [])) ∧ B ≤ D ∧ some D ≠ g
theorem Marked.nil (B : Nat) (g : Option Nat) (W : World) : Marked B [] g W := ⟨[], rfl, List.nodup_nil, fun _ h => absurd h List.not_mem_nil⟩
theorem Marked.lies {B : Nat} {ds : List Deferred} {g g' : Option Nat} {A C : World} (h : Marked B ds g A) (hs : Lies (fun k => B ≤ k ∧ k < A.heap.size ∧ some k ≠ g) A C) (hg : ∀ q, g' = some q → some q = g ∨ A.heap.size ≤ q) : Marked B ds g' C := by
  obtain ⟨Ds, e, hn, hD⟩ := h
  refine ⟨Ds, e, hn, fun D hm => ?_⟩
  obtain ⟨h1, h2, h3⟩ := hD D hm
  have hlt := (Array.getElem?_eq_some_iff.1 h1).1
  refine ⟨(hs.same D ⟨h2, hlt, h3⟩ hlt).trans h1, h2, fun e => ?_⟩
  rcases hg D e.symm with hg | hb
  · exact h3 hg
  · omega
theorem Marked.cons {B D : Nat} {ds : List Deferred} {g : Option Nat} {W : World} (h : Marked B ds g W) (hD : W.heap[D]? = some (.deferred (some []))) (hB : B ≤ D) (hg : some D ≠ g) (hnew : ∀ E, ({ target := .collected E, args := #[] } : Deferred) ∈ ds → E < D) :
    Marked B ({ target := .collected D, args := #[] } :: ds) g W := by
  obtain ⟨Ds, rfl, hn, hDs⟩ := h
  refine ⟨D :: Ds, rfl, List.nodup_cons.2 ⟨fun hm => ?_, hn⟩, fun E hE => ?_⟩
  · have := hnew D (List.mem_map.2 ⟨D, hm, rfl⟩)
    omega
  · rcases List.mem_cons.1 hE with rfl | hE
    · exact ⟨hD, hB, hg⟩
    · exact hDs E hE
theorem Marked.lt {B : Nat} {ds : List Deferred} {g : Option Nat} {W : World} (h : Marked B ds g W) : ∀ E, ({ target := .collected E, args := #[] } : Deferred) ∈ ds → E < W.heap.size := by
  obtain ⟨Ds, rfl, hn, hDs⟩ := h
  intro E hE
  obtain ⟨D, hD, he⟩ := List.mem_map.1 hE
  have : D = E := by injection he with h1 h2; injection h1
  subst this
  exact (Array.getElem?_eq_some_iff.1 (hDs D hD).1).1
theorem leave_marks {F : Fence} {n : Nat} {P : Program} {fn : Func} {tmps : Array Value} {R : Ending → World → Prop} {B : Nat} {g : Option Nat} (hres : ∀ (tmps : Array Value) (w : World), (results fn tmps).run P w = .ok (.tuple #[]) w)
    (C : World → Prop) (hC : ∀ W D, C W → B ≤ D → some D ≠ g → C (W.putObj D (.deferred none))) (hR : ∀ W, C W → R (.returned (.tuple #[])) W) : ∀ (ds : List Deferred) (W : World), C W → Marked B ds g W → LeavesInM F n P fn tmps R ds .returning W
  | [], W, hc, _ => ⟨_, hres tmps W, hR W hc⟩
  | d :: ds, W, hc, hm => by
    obtain ⟨Ds, e, hn, hD⟩ := hm
    cases Ds with
    | nil => cases e
    | cons D Ds =>
      rw [List.map_cons] at e
      injection e with e1 e2
      subst e1
      obtain ⟨h1, h2, h3⟩ := hD D List.mem_cons_self
      refine ⟨by simp, .inl ⟨D, _, rfl, run_takeDeferred h1, leave_marks hres C hC hR ds _ (hC W D hc h2 h3) ⟨Ds, e2, (List.nodup_cons.1 hn).2, fun E hE => ?_⟩⟩⟩
      obtain ⟨q1, q2, q3⟩ := hD E (List.mem_cons_of_mem _ hE)
      exact ⟨(World.putObj_heap_other (fun e => (List.nodup_cons.1 hn).1 (by subst e; exact hE))).trans q1, q2, q3⟩
set_option maxRecDepth 100000 in
set_option maxHeartbeats 2000000 in
theorem items_own (n : Nat) (hn : 5 ≤ n) (Bv : Nat) (A0 : Option Addr) (c0 : Nat) (xs : List ByteArray) (hxs : ∀ x ∈ xs, x.size ≤ 1000000) (hc0 : xs.length ≤ c0) (hlen : xs.length ≤ 1000000000) (w : World) (hG : TabOk w) (hr : Kd.C Kd.string w A0 xs.length xs)
    (W0 : World) (hw0 : Lies (fun k => k < w.heap.size) w W0) (hv0 : Boxed W0 Bv 38 (.slice A0 xs.length c0)) (hBv : w.heap.size ≤ Bv) :
    SeqO Fence.wide n Tryd.prog 73 #[.pointer (some ⟨Bv, 0, none⟩)] encI (fun k => k < w.heap.size ∨ k = Bv) (fun _ => False) (fun ys => ys = itemsF 0 xs) (fun pre => pre <+: itemsF 0 xs) W0 := by
  intro l J Jx g0 W hW hJ hJx hg0 hY h0
  have h1 : 1 ≤ n := by omega
  have hw1 : Lies (fun k => k < w.heap.size) w W := hw0.trans (Lies.below hW)
  have hv : Boxed W Bv 38 (.slice A0 xs.length c0) := (hW.block _ hv0.lt).trans hv0
  have l1 := hv.lt
  have l4 := hw1.size
  clear hW hv0 hw0
  have hvc := (hv.alloc (.cells #[.func (.yield l) #[] #[]] 107)).cell
  refine callsIn_of_wp_marks Tryd.func73 rfl trivial ?_ rfl
  simp only [Tryd.ntmps73, List.size_toArray, List.length_cons, List.length_nil, Nat.reduceAdd, Nat.reduceSub, Array.replicate_succ, Array.replicate_zero, List.push_toArray, List.append_toArray, List.nil_append, List.cons_append]
  gi_wp2
  refine wpIn_scope_straight ?_
  gi_wp2
  apply wpIn_label
  gi_wp2
  refine wpIn_loop (fun a W' => ∃ (k : Nat) (ds : List Deferred) (g : Option Nat) (u3 u4 u5 u6 u10 u11 u12 u13 u14 u15 u16 u17 u18 u19 u20 u21 u22 u23 u24 u25 u26 u27 u28 : Value), k ≤ xs.length ∧ a = { tmps := #[.func (.yield l) #[] #[], .pointer (some ⟨Bv, 0, none⟩), .pointer (some ⟨W.heap.size, 0, none⟩), u3, u4, u5, u6, .slice A0 xs.length c0, .int .i64 (xs.length : Int), .int .i64 (k : Int), u10, u11, u12, u13, u14, u15, u16, u17, u18, u19, u20, u21, u22, u23, u24, u25, u26, u27, u28], defers := ds } ∧ Aside0 (Marked W.heap.size ds g W') ∧ Aside0 (J (itemsF 0 (xs.take k)) g W') ∧
      Aside0 (∀ q, g = some q → (¬ (q < w.heap.size ∨ q = Bv) ∧ q ≠ W.heap.size) ∧ q < W'.heap.size) ∧ Aside0 (Lies (fun j => (j < w.heap.size ∨ j = Bv) ∨ j = W.heap.size) (W.alloc (.cells #[.func (.yield l) #[] #[]] 107)) W'))
    (fun a _ => xs.length - (intOf (a.tmps.getD 9 undef)).toNat) ?start ?round
  case start =>
    exact ⟨0, [], g0, undef, undef, undef, undef, undef, undef, undef, undef, undef, undef, undef, undef, undef, undef, undef, undef, undef, undef, undef, undef, undef, undef, undef, Nat.zero_le _, rfl, ⟨Marked.nil _ _ _⟩, ⟨hJ.alloc _ h0⟩,
      ⟨fun q e => ⟨⟨(hg0 q e).1, by have := (hg0 q e).2; omega⟩, by have := (hg0 q e).2; rw [World.size_alloc]; omega⟩⟩, ⟨Lies.refl _ _⟩⟩
  case round =>
    rintro a wr ⟨k, ds, g, u3, u4, u5, u6, u10, u11, u12, u13, u14, u15, u16, u17, u18, u19, u20, u21, u22, u23, u24, u25, u26, u27, u28, hk, rfl, hM, hJs, hgq, hnx⟩
    have hsz := hnx.out.size
    rw [World.size_alloc] at hsz
    have hYb := Aside0.mk (hnx.out.box (.inr rfl) (Boxed.new W 107 (.func (.yield l) #[] #[])))
    by_cases hlt : k < xs.length
    · obtain ⟨ad, e, hx0⟩ := at_str hr k hlt
      subst e
      have hadb : (ad.add k).block < w.heap.size := World.block_lt_of_cell? w _ hx0
      have hx1 := hw1.cell (p := ad.add k) hadb hx0
      have hx2 := hnx.out.cell (p := ad.add k) (.inl (.inl hadb)) ((Lies.below (K := fun j => j < w.heap.size) (below_alloc (Below.refl _ W) (.cells #[.func (.yield l) #[] #[]] 107))).cell (p := ad.add k) hadb hx1)
      have HT := Aside0.mk (itemsF_take xs 0 k hlt)
      have hxz := hxs _ (mem_getD xs ByteArray.empty k hlt)
      generalize xs.getD k ByteArray.empty = x at *
      have HC := Aside0.mk (SplitSeq_calls x ⟨#[44]⟩ (wr.alloc (.cells #[.int .i64 (k : Int)] 3)))
      clear hx0 hx1
      gi_wp2
      refine ⟨trivial, ?_⟩
      refine (callsIn_wide.2 HC.out).mono ?_
      rintro e w1 ⟨rfl, rfl⟩
      clear HC
      gi_wp2
      generalize hw4 : (((wr.alloc (.cells #[.int .i64 (k : Int)] 3)).alloc (.cells #[.string x] 9)).alloc (.cells #[.string ⟨#[44]⟩] 9)).alloc (.cells #[.int .i64 0] 3) = w4
      have s4 : w4.heap.size = wr.heap.size + 4 := by rw [← hw4]; simp only [World.size_alloc]
      have HW4 := Aside0.mk (show Below wr.heap.size wr w4 by rw [← hw4]; exact below_alloc (below_alloc (below_alloc (below_alloc (Below.refl _ _) _) _) _) _)
      have HBi := Aside0.mk (show Boxed w4 wr.heap.size 3 (.int .i64 (k : Int)) by rw [← hw4]; exact (((Boxed.new wr _ _).alloc _).alloc _).alloc _)
      have HBs := Aside0.mk (show Boxed w4 (wr.heap.size + 1) 9 (.string x) by
        have := Boxed.new (wr.alloc (.cells #[.int .i64 (k : Int)] 3)) 9 (.string x)
        rw [World.size_alloc] at this
        rw [← hw4]; exact (this.alloc _).alloc _)
      have HBp := Aside0.mk (show Boxed w4 (wr.heap.size + 1 + 1) 9 (.string ⟨#[44]⟩) by
        have := Boxed.new ((wr.alloc (.cells #[.int .i64 (k : Int)] 3)).alloc (.cells #[.string x] 9)) 9 (.string ⟨#[44]⟩)
        rw [World.size_alloc, World.size_alloc] at this
        rw [← hw4]; exact this.alloc _)
      have HBk := Aside0.mk (show Boxed w4 (wr.heap.size + 1 + 2) 3 (.int .i64 0) by
        have := Boxed.new (((wr.alloc (.cells #[.int .i64 (k : Int)] 3)).alloc (.cells #[.string x] 9)).alloc (.cells #[.string ⟨#[44]⟩] 9)) 3 (.int .i64 0)
        rw [World.size_alloc, World.size_alloc, World.size_alloc] at this
        rw [← hw4]; exact this)
      clear hw4
      have HJ4 := Aside0.mk (show J (soFar xs k []) g w4 by unfold soFar; rw [List.flatMap_nil, List.map_nil, List.append_nil]; exact hJ.step hJs.out (grown_below HW4.out))
      have HGL := Aside0.mk (show ∀ q, g = some q → q < wr.heap.size from fun q e => (hgq.out q e).2)
      have HLw := Aside0.mk (show Lies (fun j => j < w.heap.size) w w4 from hw1.trans ((Lies.below (K := fun j => j < w.heap.size) (below_alloc (Below.refl _ W) (.cells #[.func (.yield l) #[] #[]] 107))).trans ((hnx.out.imp (fun j h => .inl (.inl h))).trans (Lies.below HW4.out))))
      have HTW := Aside0.mk (show ∀ W', Lies (KrI w.heap.size Bv W.heap.size wr.heap.size g) w4 W' → TabOk W' from fun W' h => hG.lies HLw.out (fun j h => .inl (.inl h)) h)
      have HSQ := Aside0.mk (split_own (n - 1) (by omega) (wr.heap.size + 1 + 1) (wr.heap.size + 1) (wr.heap.size + 1 + 2) x (by omega) w hG w4 HLw.out HBp.out HBs.out HBk.out (by omega) (by omega) (by omega))
      have HAb : ∀ (T : List (Nat × ByteArray) → Option Nat → World → Prop), Abd (fun _ => False) W.heap.size T → Abd (fun j => j = wr.heap.size + 1) w4.heap.size (fun (pre : List ByteArray) g' W' => T (soFar xs k pre) g' W' ∧ gF g (wr.heap.size + 6) g' ∧ (∀ q, g' = some q → q < W'.heap.size) ∧ Lies (KrI w.heap.size Bv W.heap.size wr.heap.size g) w4 W') := by
        rintro T hT pre g' A C row ⟨hj, hgf, hlt', hl⟩ hgr hrow
        refine ⟨hT _ g' A C row hj hgr (fun r e => .inl ?_), hgf, fun q e => Nat.lt_of_lt_of_le (hlt' q e) hgr.size, hl.trans (Lies.grown hgr (fun r e hk => ?_))⟩
        · rcases hrow r e with ⟨h1, h2⟩ | h
          · exact ⟨by omega, h2⟩
          · refine ⟨by omega, fun e2 => ?_⟩
            rcases hgf r e2.symm with e3 | h3
            · have := HGL.out r e3.symm
              omega
            · omega
        · have : w4.heap.size ≤ r ∨ r = wr.heap.size + 1 := (hrow r e).imp (fun h => h.1) id
          rcases hk with (hk | hk) | hk <;> omega
      refine wpIn_range_own (F := Fence.wide) rfl rfl h1 (gf := 85) (lb := #[.pointer (some ⟨wr.heap.size + 1 + 1, 0, none⟩), .pointer (some ⟨wr.heap.size + 1, 0, none⟩), .pointer (some ⟨wr.heap.size + 1 + 2, 0, none⟩)]) rfl trivial (enters_of Tryd.func85 (by kernel_rfl) rfl) HSQ.out (Below.refl _ _)
        (fun r h => by omega) (fun r h => by unfold Kz3 at h; omega) (fun _ => rfl) g (fun q e => ⟨fun h => by have := hgq.out q e; unfold Kz3 at h; rcases h with h | h | h | h; exact this.1.1 (.inl h); all_goals omega, by have := HGL.out q e; omega⟩)
        (fun pre g' W' => J (soFar xs k pre) g' W' ∧ gF g (wr.heap.size + 6) g' ∧ (∀ q, g' = some q → q < W'.heap.size) ∧ Lies (KrI w.heap.size Bv W.heap.size wr.heap.size g) w4 W')
        (fun c pre g' W' => (Jx (soFar xs k pre) g' W' ∧ gF g (wr.heap.size + 6) g' ∧ (∀ q, g' = some q → q < W'.heap.size) ∧ Lies (KrI w.heap.size Bv W.heap.size wr.heap.size g) w4 W') ∧ c = .exit 0)
        (HAb J hJ) (fun c => Abd.and (HAb Jx hJx) (Abd.pure (β := List ByteArray) (fun _ _ => c = .exit 0)))
        ⟨HJ4.out, fun q e => .inl e.symm, fun q e => by have := HGL.out q e; omega, Lies.refl _ _⟩
        (fun pre g' W' q h e => by rcases h.2.1 q e with e2 | h2; have := HGL.out q e2.symm; omega; omega) (fun c pre g' W' q h e => by rcases h.1.2.1 q e with e2 | h2; have := HGL.out q e2.symm; omega; omega)
        (fun p a' _ => a' = { tmps := #[.func (.yield l) #[] #[], .pointer (some ⟨Bv, 0, none⟩), .pointer (some ⟨W.heap.size, 0, none⟩), .pointer (some ⟨wr.heap.size, 0, none⟩), .string x, .string p, u6, .slice (some ad) xs.length c0, .int .i64 (xs.length : Int), .int .i64 (k : Int), .bool true, .int .i64 (k : Int), .pointer (some (ad.add k)), .string x, .string x, .func (.func 85) #[] #[.pointer (some ⟨wr.heap.size + 1 + 1, 0, none⟩), .pointer (some ⟨wr.heap.size + 1, 0, none⟩), .pointer (some ⟨wr.heap.size + 1 + 2, 0, none⟩)], .string p, u17, u18, u19, u20, u21, u22, u23, u24, u25, u26, u27, u28], defers := [] }) (fun p a' _ _ _ _ _ h _ _ => h) ?assign ?body ?done ?stop
      case assign =>
        intro l' pre p g' W' K hI hK
        gi_wp2
        exact hK _ _ (Spares.refl _ _ _) hI rfl
      case body =>
        rintro l' pre p g' a' W' hW2 ⟨hj, hgf, hlt', hl⟩ rfl hsp
        have hpz : p.size ≤ x.size := partsB_size x p (hsp.subset (List.mem_append_right _ List.mem_cons_self))
        have HSP := Aside0.mk (soFar_prefix xs k hlt x HT.out _ hsp)
        have HC := Aside0.mk (octet_Trim.calls p (trimS p) W' (HTW.out W' hl) (by unfold octet_Trim.f; rw [if_pos (by omega)]))
        have HL := Aside0.mk hl
        have HJJ := Aside0.mk hj
        have HGF := Aside0.mk hgf
        have HLT := Aside0.mk hlt'
        clear hl hj hgf hlt' hsp
        obtain ⟨y, hy⟩ : ∃ y, trimS p = y := ⟨_, rfl⟩
        have HN := Aside0.mk (soFar_snoc_nil xs k pre p)
        have HS := Aside0.mk (soFar_snoc xs k pre p)
        rw [hy] at HC HN HS
        clear hy
        gi_wp2
        refine ⟨trivial, (fun _ => by omega), ?_⟩
        refine (CallsIn.inRound l' (callsIn_wide.2 HC.out)).mono ?_
        rintro e w5 ⟨rfl, b5⟩
        have HB5 := Aside0.mk b5
        have HL5 := Aside0.mk (HL.out.trans (Lies.below b5))
        have HJ5 := Aside0.mk (hJ.step HJJ.out (grown_below b5))
        have hz5 : wr.heap.size + 6 ≤ w5.heap.size := by have := b5.size; omega
        clear b5 HC
        by_cases h0 : y.size = 0
        · obtain rfl : y = ⟨#[]⟩ := ByteArray.ext (Array.eq_empty_of_size_eq_zero h0)
          gi_wp2
          refine ⟨fun _ h => (by cases h), ?_⟩
          gi_wp2
          exact ⟨g', Spares.below HB5.out, by rw [HN.out h0]; exact HJ5.out, HGF.out, fun q e => Nat.lt_of_lt_of_le (HLT.out q e) HB5.out.size, HL5.out⟩
        · have hne1 : (y.toList == ([] : List UInt8)) = false := by
            rw [ByteArray.toList_eq, beq_eq_false_iff_ne]
            intro e
            apply h0
            rw [size_eq_length, e]; rfl
          have hne2 : (y.toList = ([] : List UInt8)) = False := by simpa using hne1
          have hne3 : (y = (⟨#[]⟩ : ByteArray)) = False := by
            refine eq_false ?_
            rintro rfl
            exact h0 rfl
          rw [HS.out h0] at HSP
          obtain ⟨fn, tmps, assign, body, hy, hR⟩ := hY (n - 1 - 1 - 1) (soFar xs k pre) (k, y) g' w5 HJ5.out HSP.out
          have HR := Aside0.mk hR
          dsimp only [encI] at hy
          have hYc := ((HL5.out.imp (K' := fun j => j = W.heap.size) (fun j h => by subst h; exact .inr ⟨Nat.le_refl _, by omega, fun e => (hgq.out _ e.symm).1.2 rfl⟩)).box rfl ((Lies.below (K := fun j => j = W.heap.size) HW4.out).box rfl hYb.out)).cell
          have hic := (HL5.out.box (b := wr.heap.size) (.inr ⟨by omega, Nat.le_refl _, fun e => by have := HGL.out _ e.symm; omega⟩) HBi.out).cell
          clear hR
          gi_wp2
          refine ⟨(fun _ => by omega), ?_⟩
          refine RoundIn.mono (F := Fence.wide.inRound l') HR.out ?_
          rintro e W3 ⟨g3, hsp3, hJJ3⟩
          have HSP3 := Aside0.mk ((Spares.below (K := fun j => w4.heap.size ≤ j ∨ Kz3 w.heap.size (wr.heap.size + 1 + 1) (wr.heap.size + 1) (wr.heap.size + 1 + 2) j) (g := g') HB5.out).trans (hsp3.imp (fun j h _ => by
            rcases h with h | h
            · exact .inl (by omega)
            · unfold Kz3 at h
              rcases h with h | h | h | h
              · exact .inr (.inl h)
              · exact .inl (by omega)
              · exact .inl (by omega)
              · exact .inl (by omega))))
          have HL3 := Aside0.mk (HL5.out.trans (hsp3.lies (K' := KrI w.heap.size Bv W.heap.size wr.heap.size g) (fun j h _ => by
            refine ⟨?_, fun e => ?_⟩
            · rcases h with h | h
              · exact .inr h
              · exact .inl h.1
            · rcases HGF.out j e.symm with e2 | h2
              · rcases h with h | h
                · exact (hgq.out j e2.symm).1.1 h
                · exact h.2.2 e2
              · rcases h with (h | h) | h <;> omega)))
          have HG3 := Aside0.mk (HGF.out.step (A := w5) hsp3 hz5)
          have HT3 := Aside0.mk (hsp3.lt (fun q e => Nat.lt_of_lt_of_le (HLT.out q e) HB5.out.size))
          clear hsp3
          rcases hJJ3 with ⟨rfl, hJ3⟩ | ⟨rfl, hJx3⟩
          · gi_wp2
            exact ⟨g3, HSP3.out, by rw [HS.out h0]; exact hJ3, HG3.out, HT3.out, HL3.out⟩
          · gi_wp2
            exact ⟨g3, HSP3.out, ⟨by rw [HS.out h0]; exact hJx3, HG3.out, HT3.out, HL3.out⟩, rfl⟩
      case done =>
        rintro D ys g' W' hD rfl ⟨hj, hgf, hlt', hl⟩ hK
        rw [soFar_whole xs k x HT.out] at hj
        have HM2 := Aside0.mk (show Marked W.heap.size ({ target := .collected D, args := #[] } :: ds) g' W' from
          (hM.out.lies (g' := g') ((Lies.below HW4.out).trans (hl.imp (fun j h => .inr ⟨h.1, Nat.le_of_lt h.2.1, h.2.2⟩))) (fun q e => (hgf q e).imp id (fun h => by omega))).cons hK (by omega) (fun e => by rcases hgf D e.symm with e2 | h2; have := HGL.out D e2.symm; omega; omega) (fun E hE => by have := hM.out.lt E hE; omega))
        have HJ2 := Aside0.mk hj
        have HQ2 := Aside0.mk (show ∀ q, g' = some q → (¬ (q < w.heap.size ∨ q = Bv) ∧ q ≠ W.heap.size) ∧ q < W'.heap.size from fun q e => by
          refine ⟨?_, hlt' q e⟩
          rcases hgf q e with e2 | h2
          · exact (hgq.out q e2.symm).1
          · exact ⟨by omega, by omega⟩)
        have HN2 := Aside0.mk (hnx.out.trans ((Lies.below (K := fun j => (j < w.heap.size ∨ j = Bv) ∨ j = W.heap.size) HW4.out).trans (hl.imp (fun j h => by
          rcases h with h | h
          · exact .inl h
          · subst h
            exact .inr ⟨Nat.le_refl _, by omega, fun e => (hgq.out _ e.symm).1.2 rfl⟩))))
        clear hj hgf hlt' hl hK
        gi_wp2
        refine ⟨⟨k + 1, _, g', _, _, _, _, _, _, _, _, _, _, _, _, _, _, _, _, _, _, _, _, _, _, _, hlt, rfl, HM2, HJ2, HQ2, HN2⟩, ?_⟩
        simp [intOf]
        omega
      case stop =>
        rintro D c pre g' W' hD hsp ⟨⟨hj, hgf, hlt', hl⟩, rfl⟩ hK
        have HM2 := Aside0.mk (show Marked W.heap.size ({ target := .collected D, args := #[] } :: ds) g' W' from
          (hM.out.lies (g' := g') ((Lies.below HW4.out).trans (hl.imp (fun j h => .inr ⟨h.1, Nat.le_of_lt h.2.1, h.2.2⟩))) (fun q e => (hgf q e).imp id (fun h => by omega))).cons hK (by omega) (fun e => by rcases hgf D e.symm with e2 | h2; have := HGL.out D e2.symm; omega; omega) (fun E hE => by have := hM.out.lt E hE; omega))
        have HSP := Aside0.mk (soFar_prefix xs k hlt x HT.out _ hsp)
        have HJX := Aside0.mk hj
        clear hj hgf hlt' hl hK hsp
        gi_wp2
        exact leave_marks (B := W.heap.size) (g := g') (fun tmps w => results_none rfl tmps _ w) (fun W' => Jx (soFar xs k pre) g' W') (fun W' D hc hB hD => hJx.putObj _ hc hB hD) (fun W' hc => ⟨⟨_, rfl⟩, .inr ⟨_, g', HSP.out, hc⟩⟩) _ W' HJX.out HM2.out
    · obtain rfl : k = xs.length := by omega
      rw [List.take_length] at hJs
      gi_wp2
      refine leave_marks (B := W.heap.size) (g := g) (fun tmps w => results_none rfl tmps _ w) (fun W' => J (itemsF 0 xs) g W') (fun W' D hc hB hD => hJ.putObj _ hc hB hD) (fun W' hc => ⟨⟨_, rfl⟩, .inl ⟨_, g, rfl, hc⟩⟩) ds wr hJs.out hM.out
end Go.Proofs.YtoanmbhenmlboaaDoorH
end
section
namespace Go.Proofs.YtoanmbhenmlboaaDoor.Ps
open Go.RowKit Go.Proofs.YtoanmbhenmlboaaDoorH Go.Proofs.YtoanmbhenmlboaaDoorW.PrintWords Go.Proofs.YtoanmbhenmlboaaDoorW.PrintLast Go.Proofs.YtoanmbhenmlboaaDoorW.PrintMore
attribute [local go_sem] max2_int min2_int max_two min_two max_three min_three max_four min_four   -- for this text's walks alone
set_option linter.unusedVariables false
set_option linter.unusedSimpArgs false
def errW : Option Int → Value
  | none => .nilIface
  | some c => .iface 0 (.int .i64 c)
theorem errW_none : errW none = .nilIface := rfl
theorem errW_some (c : Int) : errW (some c) = .iface 0 (.int .i64 c) := rfl
theorem info9 : (Tryd.prog.info? 9).map (fun i => (i.zero, i.size, i.bytes)) = some (some (.string ⟨#[]⟩), 1, 16) := by kernel_rfl
structure S71 where
  f0 : ByteArray
  f1 : ByteArray
def z71 : S71 := ⟨(⟨#[]⟩ : ByteArray), (⟨#[]⟩ : ByteArray)⟩
def k71 : Kd S71 := Kd.iso (Kd.pair Kd.string Kd.string) (fun x : S71 => (x.f0, x.f1))
theorem k71_open {w : World} {x : S71} {cs : List Value} (h : k71.K w x cs) : cs = [.string x.f0, .string x.f1] := by
  obtain ⟨_, _, rfl, rfl, rfl⟩ := h
  exact rfl
theorem k71_mkM (w : World) (base : Nat) (ok : Nat → Prop) (x : S71)  : k71.M w base ok x [.string x.f0, .string x.f1] := ⟨[.string x.f0], [.string x.f1], rfl, rfl, rfl⟩
def rd_T71 (xs : List S71) (i : Int) : S71 := xs.getD i.toNat z71
theorem at_T71 {w : World} {A : Option Addr} {n : Nat} {xs : List S71} (h : Kd.C k71 w A n xs) (i : Int) (h0 : 0 ≤ i) (h1 : i < n) : ∃ ad , A = some ad ∧ w.cell? (ad.add (i.toNat * 2)) = some (.string (rd_T71 xs i).f0) ∧ w.cell? ⟨(ad.add (i.toNat * 2)).block, (ad.add (i.toNat * 2)).off + 1, none⟩ = some (.string (rd_T71 xs i).f1) := by
  obtain ⟨ad, c, e, _, hK, hc0⟩ := Kd.C_get h z71 i h0 h1
  have hc : ∀ j u, c[j]? = some u → w.cell? (ad.add (i.toNat * 2 + j)) = some u := hc0
  obtain rfl := k71_open hK
  exact ⟨ad, e, hc 0 _ rfl, by rw [← add_field _ _ 1 (by omega)]; exact hc 1 _ rfl⟩
end Go.Proofs.YtoanmbhenmlboaaDoor.Ps
end
section
namespace Go.Proofs.YtoanmbhenmlboaaDoor.Ps
open Go.RowKit Go.Proofs.YtoanmbhenmlboaaDoorH Go.Proofs.YtoanmbhenmlboaaDoorW.PrintWords Go.Proofs.YtoanmbhenmlboaaDoorW.PrintLast Go.Proofs.YtoanmbhenmlboaaDoorW.PrintMore
attribute [local go_sem] max2_int min2_int max_two min_two max_three min_three max_four min_four   -- for this text's walks alone
set_option linter.unusedVariables false
set_option linter.unusedSimpArgs false
def list_word.f (a0 : ByteArray) : Option (ByteArray) := (strings_Cut.f a0 (⟨#[59]⟩ : ByteArray)).bind fun bt101 => ((octet_Trim.f bt101.1).bind fun t104 => (some t104))
set_option maxHeartbeats 8000000 in
set_option maxRecDepth 100000 in
theorem list_word.calls (a0 : ByteArray) (r : ByteArray) (w : World) (hG : TabOk w) (h : list_word.f a0 = some r) :
    Calls Tryd.prog 59 #[.string a0] w fun e w' => e = .returned (.string r) ∧ Below w.heap.size w w' := by
  have HB := Aside0.mk (Below.refl w.heap.size w)
  have H : ((strings_Cut.f a0 (⟨#[59]⟩ : ByteArray)).bind fun bt101 => ((octet_Trim.f bt101.1).bind fun t104 => (some t104))) = some r := h
  clear h
  replace H := Option.bind_eq_some_iff.mp H
  obtain ⟨⟨t101, t102, t103⟩, A20, H⟩ := H
  replace H : ((octet_Trim.f t101).bind fun t104 => (some t104)) = some r := H
  have A2 := Aside0.mk A20
  clear A20
  replace H := Option.bind_eq_some_iff.mp H
  obtain ⟨t104, A30, H⟩ := H
  replace H : (some t104) = some r := H
  have A3 := Aside0.mk A30
  clear A30
  obtain rfl := Option.some.inj H
  go_enter Tryd.func59, Tryd.ntmps59
  go_wp2_with (first | ((with_reducible refine gate_callee (f := 76) rfl ?_); refine goesL_ (some 8) rfl rfl Tryd.func76 (by kernel_rfl) rfl #[.string a0, .string (⟨#[59]⟩ : ByteArray)] rfl (by (try simp only [List.map_toArray, List.map_cons, List.map_nil]); first | done | rfl | (simp only [List.length_drop, List.length_take]; rfl)) ?_; (with_reducible refine (strings_Cut.calls a0 (⟨#[59]⟩ : ByteArray) t101 t102 t103 _ ?side1 A2.out).mono ?_); (case side1 => first | exact hG | exact TabOk.drewN hG _ | exact TabOk.drewN (TabOk.drewN hG _) _ | exact TabOk.below hG (by repeat (first | (with_reducible first | exact HB.out | apply below_alloc | apply pw_below_drewN | apply below_drew1) | exact HB.out))); rintro e w4 ⟨rfl, hb⟩; refine ⟨_, rfl, ?_⟩; have n0_ := Aside0.mk (below_step (by repeat (first | (with_reducible first | exact HB.out | apply below_alloc | apply pw_below_drewN | apply below_drew1) | exact HB.out)) hb); clear HB; have HB := n0_; clear n0_; (try clear hb); (try clear hb2); (try clear hk); (try clear hi)) | ((with_reducible refine gate_callee (f := 75) rfl ?_); refine goesL_ (some 13) rfl rfl Tryd.func75 (by kernel_rfl) rfl #[.string t101] rfl (by (try simp only [List.map_toArray, List.map_cons, List.map_nil]); first | done | rfl | (simp only [List.length_drop, List.length_take]; rfl)) ?_; (with_reducible refine (octet_Trim.calls t101 t104 _ ?side1 A3.out).mono ?_); (case side1 => first | exact hG | exact TabOk.drewN hG _ | exact TabOk.drewN (TabOk.drewN hG _) _ | exact TabOk.below hG (by repeat (first | (with_reducible first | exact HB.out | apply below_alloc | apply pw_below_drewN | apply below_drew1) | exact HB.out))); rintro e w5 ⟨rfl, hb⟩; refine ⟨_, rfl, ?_⟩; have n0_ := Aside0.mk (below_step (by repeat (first | (with_reducible first | exact HB.out | apply below_alloc | apply pw_below_drewN | apply below_drew1) | exact HB.out)) hb); clear HB; have HB := n0_; clear n0_; (try clear hb); (try clear hb2); (try clear hk); (try clear hi)))
  go_ret
  exact ⟨by first | rfl | (simp [errW_none, errW_some] <;> rfl) | (simp [*, errW_none, errW_some] <;> rfl), by repeat (first | (with_reducible first | exact HB.out | apply below_alloc | apply pw_below_drewN | apply below_drew1) | exact HB.out)⟩
def slices_Index_int_int.l0 : Nat → List Int → Int → Int → Int → Option (Int)
  | 0, _, _, _, _ => none
  | k + 1, x0, x1, x7, x8 => if x8 < x7 then (if 0 ≤ x8 then (if x8 < (x0.length : Int) then (if x1 = (rd x0 x8) then (some x8) else (slices_Index_int_int.l0 k x0 x1 x7 (wrap64 (x8 + 1)))) else (none)) else (none)) else (some (-1))
def slices_Index_int_int.f (k : Nat) (l0 : List Int) (a1 : Int) : Option (Int) := slices_Index_int_int.l0 k l0 a1 (l0.length : Int) 0
theorem slices_Index_int_int.mono_l : ∀ k, (∀ y0 y1 y2 y3, LeO (slices_Index_int_int.l0 k y0 y1 y2 y3) (slices_Index_int_int.l0 (k + 1) y0 y1 y2 y3))
  | 0 => fun _ _ _ _ r h => by simp [slices_Index_int_int.l0] at h
  | k + 1 => by
    have ih0 := slices_Index_int_int.mono_l k
    · intro y0 y1 y2 y3
      unfold slices_Index_int_int.l0
      repeat' first
      | (with_reducible exact ih0 _ _ _ _)
      | (with_reducible exact LeO.refl _)
      | (with_reducible exact LeO.none _)
      | (with_reducible refine LeO.ite ?_ ?_)
      | (with_reducible refine LeO.bind ?_ (fun _ => ?_))
      | exact ih0 _ _ _ _
      | exact LeO.none _
      | refine LeO.ite ?_ ?_
      | refine LeO.bind ?_ (fun _ => ?_)
theorem slices_Index_int_int.mono : ∀ a0 a1 k, LeO (slices_Index_int_int.f k a0 a1) (slices_Index_int_int.f (k + 1) a0 a1) := by
  intro a0 a1 k
  have ih0 := slices_Index_int_int.mono_l k
  unfold slices_Index_int_int.f
  repeat' first
      | (with_reducible exact ih0 _ _ _ _)
      | (with_reducible exact LeO.refl _)
      | (with_reducible exact LeO.none _)
      | (with_reducible refine LeO.ite ?_ ?_)
      | (with_reducible refine LeO.bind ?_ (fun _ => ?_))
      | exact ih0 _ _ _ _
      | exact LeO.none _
      | refine LeO.ite ?_ ?_
      | refine LeO.bind ?_ (fun _ => ?_)
set_option maxHeartbeats 8000000 in
set_option maxRecDepth 100000 in
theorem slices_Index_int_int.calls (k : Nat) (A0 : Option Addr) (c0 : Nat) (l0 : List Int) (a1 : Int) (r : Int) (w : World) (hr0 : Kd.C (Kd.int .i64) w A0 l0.length l0) (hc0 : l0.length ≤ c0) (hG : TabOk w) (h : slices_Index_int_int.f k l0 a1 = some r) :
    Calls Tryd.prog 80 #[.slice A0 l0.length c0, .int .i64 a1] w fun e w' => e = .returned (.int .i64 r) ∧ Drawn0 w w' := by
  have HR0 := Aside0.mk hr0
  have HC0 := Aside0.mk hc0
  clear hr0 hc0
  have H : (slices_Index_int_int.l0 k l0 a1 (l0.length : Int) 0) = some r := h
  clear h
  have H' := Aside0.mk H
  clear H
  go_enter Tryd.func80, Tryd.ntmps80
  go_wp2
  go_loopg [8] k (fun kq v8 w' => ∃ (x8_1 : Int), v8 = .int .i64 x8_1 ∧ Aside0 (slices_Index_int_int.l0 kq l0 a1 (l0.length : Int) x8_1 = some r) ∧ Aside0 (kq ≤ k) ∧ Drawn0 w w')
  case atStart => exact ⟨(0), (by first | rfl | (simp; done) | (simp [*]; done)), H', ⟨Nat.le_refl _⟩, by repeat (first | exact Drawn0.refl _ | apply Drawn0.step)⟩
  case round =>
    clear H'
    try clear p2
    obtain ⟨x8_1, rfl, HA, HK1, ⟨m1, rfl⟩⟩ := hrel
    cases gk with
    | zero => exact absurd HA.out (by simp [slices_Index_int_int.l0])
    | succ k1 =>
      have H := HA.out
      clear HA
      simp only [slices_Index_int_int.l0] at H
      by_cases c3 : x8_1 < (l0.length : Int)
      · rw [if_pos c3] at H
        have c3b0 : decide (x8_1 < (l0.length : Int)) = true := decide_eq_true c3
        clear c3
        by_cases c4 : 0 ≤ x8_1
        · rw [if_pos c4] at H
          have c4b0 : decide (0 ≤ x8_1) = true := decide_eq_true c4
          clear c4
          by_cases c5 : x8_1 < (l0.length : Int)
          · rw [if_pos c5] at H
            have c5b0 : decide (x8_1 < (l0.length : Int)) = true := decide_eq_true c5
            clear c5
            by_cases c6 : a1 = (rd l0 x8_1)
            · rw [if_pos c6] at H
              have c6b0 : (a1 == (rd l0 x8_1)) = true := beq_iff_eq.mpr c6
              have c6b1 : (a1 != (rd l0 x8_1)) = false := bne_eq_false_iff_eq.mpr c6
              clear c6
              obtain rfl := Option.some.inj H
              have p105 : 0 ≤ (x8_1 : Int) := of_decide_eq_true (by first | (with_reducible assumption) | assumption)
              have q105 : x8_1 < (l0.length : Int) := of_decide_eq_true (by first | (with_reducible assumption) | assumption)
              obtain ⟨ad105, e105, hx105_0⟩ := Kd.at_int HR0.out x8_1 p105 q105
              cases e105
              replace p105 := eq_true p105
              replace q105 := eq_true q105
              go_wp2
              go_ret
              exact ⟨by first | rfl | (simp; done) | (simp [*]; done), by repeat (first | exact Drawn0.refl _ | apply Drawn0.step)⟩
            · rw [if_neg c6] at H
              have c6b0 : (a1 == (rd l0 x8_1)) = false := beq_eq_false_iff_ne.mpr c6
              have c6b1 : (a1 != (rd l0 x8_1)) = true := bne_iff_ne.mpr c6
              have H' := Aside0.mk H
              clear H
              have p105 : 0 ≤ (x8_1 : Int) := of_decide_eq_true (by first | (with_reducible assumption) | assumption)
              have q105 : x8_1 < (l0.length : Int) := of_decide_eq_true (by first | (with_reducible assumption) | assumption)
              obtain ⟨ad105, e105, hx105_0⟩ := Kd.at_int HR0.out x8_1 p105 q105
              cases e105
              replace p105 := eq_true p105
              replace q105 := eq_true q105
              go_wp2
              go_roundg k1
              case measure => have := HK1.out; omega
              case rel => exact ⟨(wrap64 (x8_1 + 1)), (by first | rfl | (simp; done) | (simp [*]; done)), H', ⟨by have := HK1.out; omega⟩, by repeat (first | exact Drawn0.refl _ | apply Drawn0.step)⟩
          · rw [if_neg c5] at H
            exact absurd H (by simp)
        · rw [if_neg c4] at H
          exact absurd H (by simp)
      · rw [if_neg c3] at H
        have c3b0 : decide (x8_1 < (l0.length : Int)) = false := decide_eq_false c3
        clear c3
        obtain rfl := Option.some.inj H
        go_wp2
        go_ret
        exact ⟨by first | rfl | (simp; done) | (simp [*]; done), by repeat (first | exact Drawn0.refl _ | apply Drawn0.step)⟩
def slices_Contains_int_int.f (k : Nat) (l0 : List Int) (a1 : Int) : Option (Bool) := (slices_Index_int_int.f k l0 a1).bind fun t106 => (some (decide (t106 ≥ 0)))
theorem slices_Contains_int_int.mono : ∀ a0 a1 k, LeO (slices_Contains_int_int.f k a0 a1) (slices_Contains_int_int.f (k + 1) a0 a1) := by
  intro a0 a1 k
  unfold slices_Contains_int_int.f
  repeat' first
      | (with_reducible exact slices_Index_int_int.mono _ _ _)
      | (with_reducible exact LeO.refl _)
      | (with_reducible exact LeO.none _)
      | (with_reducible refine LeO.ite ?_ ?_)
      | (with_reducible refine LeO.bind ?_ (fun _ => ?_))
      | exact slices_Index_int_int.mono _ _ _
      | exact LeO.none _
      | refine LeO.ite ?_ ?_
      | refine LeO.bind ?_ (fun _ => ?_)
set_option maxHeartbeats 8000000 in
set_option maxRecDepth 100000 in
theorem slices_Contains_int_int.calls (k : Nat) (A0 : Option Addr) (c0 : Nat) (l0 : List Int) (a1 : Int) (r : Bool) (w : World) (hr0 : Kd.C (Kd.int .i64) w A0 l0.length l0) (hc0 : l0.length ≤ c0) (hG : TabOk w) (h : slices_Contains_int_int.f k l0 a1 = some r) :
    Calls Tryd.prog 68 #[.slice A0 l0.length c0, .int .i64 a1] w fun e w' => e = .returned (.bool r) ∧ Drawn0 w w' := by
  have HR0 := Aside0.mk hr0
  have HC0 := Aside0.mk hc0
  clear hr0 hc0
  have H : ((slices_Index_int_int.f k l0 a1).bind fun t106 => (some (decide (t106 ≥ 0)))) = some r := h
  clear h
  replace H := Option.bind_eq_some_iff.mp H
  obtain ⟨t106, A30, H⟩ := H
  replace H : (some (decide (t106 ≥ 0))) = some r := H
  have A3 := Aside0.mk A30
  clear A30
  obtain rfl := Option.some.inj H
  go_enter Tryd.func68, Tryd.ntmps68
  go_wp2_with (first | ((with_reducible refine gate_callee (f := 80) rfl ?_); refine goesL_ (some 7) rfl rfl Tryd.func80 (by kernel_rfl) rfl #[.slice A0 l0.length c0, .int .i64 a1] rfl (by (try simp only [List.map_toArray, List.map_cons, List.map_nil]); first | done | rfl | (simp only [List.length_drop, List.length_take]; rfl)) ?_; (with_reducible refine (slices_Index_int_int.calls k _ _ l0 a1 t106 _ ?side1 ?side2 ?side3 A3.out).mono ?_); (case side1 => repeat (first | exact HR0.out | (with_reducible refine Kd.C_alloc ?_ _) | (with_reducible refine Kd.C_drewN ?_ _) | (with_reducible refine Kd.C_drew ?_))); (case side2 => exact HC0.out); (case side3 => first | exact hG | exact TabOk.drewN hG _ | exact TabOk.drewN (TabOk.drewN hG _) _ | exact TabOk.below hG (by repeat (first | (with_reducible first | exact HB.out | apply below_alloc | apply pw_below_drewN | apply below_drew1) | exact HB.out))); rintro e w' ⟨rfl, ⟨nd, rfl⟩⟩; refine ⟨_, rfl, ?_⟩))
  go_ret
  exact ⟨by first | rfl | (simp; done) | (simp [*]; done), by repeat (first | exact Drawn0.refl _ | apply Drawn0.step)⟩
def slices_Index_string_string.l0 : Nat → List ByteArray → ByteArray → Int → Int → Option (Int)
  | 0, _, _, _, _ => none
  | k + 1, x0, x1, x7, x8 => if x8 < x7 then (if 0 ≤ x8 then (if x8 < (x0.length : Int) then (if x1.toList = (rdOf ByteArray.empty x0 x8).toList then (some x8) else (slices_Index_string_string.l0 k x0 x1 x7 (wrap64 (x8 + 1)))) else (none)) else (none)) else (some (-1))
def slices_Index_string_string.f (k : Nat) (l0 : List ByteArray) (a1 : ByteArray) : Option (Int) := slices_Index_string_string.l0 k l0 a1 (l0.length : Int) 0
theorem slices_Index_string_string.mono_l : ∀ k, (∀ y0 y1 y2 y3, LeO (slices_Index_string_string.l0 k y0 y1 y2 y3) (slices_Index_string_string.l0 (k + 1) y0 y1 y2 y3))
  | 0 => fun _ _ _ _ r h => by simp [slices_Index_string_string.l0] at h
  | k + 1 => by
    have ih0 := slices_Index_string_string.mono_l k
    · intro y0 y1 y2 y3
      unfold slices_Index_string_string.l0
      repeat' first
      | (with_reducible exact ih0 _ _ _ _)
      | (with_reducible exact LeO.refl _)
      | (with_reducible exact LeO.none _)
      | (with_reducible refine LeO.ite ?_ ?_)
      | (with_reducible refine LeO.bind ?_ (fun _ => ?_))
      | exact ih0 _ _ _ _
      | exact LeO.none _
      | refine LeO.ite ?_ ?_
      | refine LeO.bind ?_ (fun _ => ?_)
theorem slices_Index_string_string.mono : ∀ a0 a1 k, LeO (slices_Index_string_string.f k a0 a1) (slices_Index_string_string.f (k + 1) a0 a1) := by
  intro a0 a1 k
  have ih0 := slices_Index_string_string.mono_l k
  unfold slices_Index_string_string.f
  repeat' first
      | (with_reducible exact ih0 _ _ _ _)
      | (with_reducible exact LeO.refl _)
      | (with_reducible exact LeO.none _)
      | (with_reducible refine LeO.ite ?_ ?_)
      | (with_reducible refine LeO.bind ?_ (fun _ => ?_))
      | exact ih0 _ _ _ _
      | exact LeO.none _
      | refine LeO.ite ?_ ?_
      | refine LeO.bind ?_ (fun _ => ?_)
set_option maxHeartbeats 8000000 in
set_option maxRecDepth 100000 in
theorem slices_Index_string_string.calls (k : Nat) (A0 : Option Addr) (c0 : Nat) (l0 : List ByteArray) (a1 : ByteArray) (r : Int) (w : World) (hr0 : Kd.C Kd.string w A0 l0.length l0) (hc0 : l0.length ≤ c0) (hG : TabOk w) (h : slices_Index_string_string.f k l0 a1 = some r) :
    Calls Tryd.prog 48 #[.slice A0 l0.length c0, .string a1] w fun e w' => e = .returned (.int .i64 r) ∧ Drawn0 w w' := by
  have HR0 := Aside0.mk hr0
  have HC0 := Aside0.mk hc0
  clear hr0 hc0
  have H : (slices_Index_string_string.l0 k l0 a1 (l0.length : Int) 0) = some r := h
  clear h
  have H' := Aside0.mk H
  clear H
  go_enter Tryd.func48, Tryd.ntmps48
  go_wp2
  go_loopg [8] k (fun kq v8 w' => ∃ (x8_1 : Int), v8 = .int .i64 x8_1 ∧ Aside0 (slices_Index_string_string.l0 kq l0 a1 (l0.length : Int) x8_1 = some r) ∧ Aside0 (kq ≤ k) ∧ Drawn0 w w')
  case atStart => exact ⟨(0), (by first | rfl | (simp; done) | (simp [*]; done)), H', ⟨Nat.le_refl _⟩, by repeat (first | exact Drawn0.refl _ | apply Drawn0.step)⟩
  case round =>
    clear H'
    try clear p2
    obtain ⟨x8_1, rfl, HA, HK1, ⟨m1, rfl⟩⟩ := hrel
    cases gk with
    | zero => exact absurd HA.out (by simp [slices_Index_string_string.l0])
    | succ k1 =>
      have H := HA.out
      clear HA
      simp only [slices_Index_string_string.l0] at H
      by_cases c3 : x8_1 < (l0.length : Int)
      · rw [if_pos c3] at H
        have c3b0 : decide (x8_1 < (l0.length : Int)) = true := decide_eq_true c3
        clear c3
        by_cases c4 : 0 ≤ x8_1
        · rw [if_pos c4] at H
          have c4b0 : decide (0 ≤ x8_1) = true := decide_eq_true c4
          clear c4
          by_cases c5 : x8_1 < (l0.length : Int)
          · rw [if_pos c5] at H
            have c5b0 : decide (x8_1 < (l0.length : Int)) = true := decide_eq_true c5
            clear c5
            by_cases c6 : a1.toList = (rdOf ByteArray.empty l0 x8_1).toList
            · rw [if_pos c6] at H
              have c6b0 : (a1.toList == (rdOf ByteArray.empty l0 x8_1).toList) = true := beq_iff_eq.mpr c6
              have c6b1 : (a1.toList != (rdOf ByteArray.empty l0 x8_1).toList) = false := bne_eq_false_iff_eq.mpr c6
              clear c6
              obtain rfl := Option.some.inj H
              have p107 : 0 ≤ (x8_1 : Int) := of_decide_eq_true (by first | (with_reducible assumption) | assumption)
              have q107 : x8_1 < (l0.length : Int) := of_decide_eq_true (by first | (with_reducible assumption) | assumption)
              obtain ⟨ad107, e107, hx107_0⟩ := Kd.at_string HR0.out x8_1 p107 q107
              cases e107
              replace p107 := eq_true p107
              replace q107 := eq_true q107
              go_wp2
              go_ret
              exact ⟨by first | rfl | (simp; done) | (simp [*]; done), by repeat (first | exact Drawn0.refl _ | apply Drawn0.step)⟩
            · rw [if_neg c6] at H
              have c6b0 : (a1.toList == (rdOf ByteArray.empty l0 x8_1).toList) = false := beq_eq_false_iff_ne.mpr c6
              have c6b1 : (a1.toList != (rdOf ByteArray.empty l0 x8_1).toList) = true := bne_iff_ne.mpr c6
              have H' := Aside0.mk H
              clear H
              have p107 : 0 ≤ (x8_1 : Int) := of_decide_eq_true (by first | (with_reducible assumption) | assumption)
              have q107 : x8_1 < (l0.length : Int) := of_decide_eq_true (by first | (with_reducible assumption) | assumption)
              obtain ⟨ad107, e107, hx107_0⟩ := Kd.at_string HR0.out x8_1 p107 q107
              cases e107
              replace p107 := eq_true p107
              replace q107 := eq_true q107
              go_wp2
              go_roundg k1
              case measure => have := HK1.out; omega
              case rel => exact ⟨(wrap64 (x8_1 + 1)), (by first | rfl | (simp; done) | (simp [*]; done)), H', ⟨by have := HK1.out; omega⟩, by repeat (first | exact Drawn0.refl _ | apply Drawn0.step)⟩
          · rw [if_neg c5] at H
            exact absurd H (by simp)
        · rw [if_neg c4] at H
          exact absurd H (by simp)
      · rw [if_neg c3] at H
        have c3b0 : decide (x8_1 < (l0.length : Int)) = false := decide_eq_false c3
        clear c3
        obtain rfl := Option.some.inj H
        go_wp2
        go_ret
        exact ⟨by first | rfl | (simp; done) | (simp [*]; done), by repeat (first | exact Drawn0.refl _ | apply Drawn0.step)⟩
end Go.Proofs.YtoanmbhenmlboaaDoor.Ps
end
section
namespace Go.Proofs.YtoanmbhenmlboaaDoorH
open Go.RowKit Go.Shelf Go.Proofs.YtoanmbhenmlboaaDoorW.PrintWords Go.Proofs.YtoanmbhenmlboaaDoorW.PrintLast Go.Proofs.YtoanmbhenmlboaaDoorW.PrintMore Go.Proofs.YtoanmbhenmlboaaDoor.Ps
attribute [local go_sem] Oper.semAt_some
def sumS (l : List ByteArray) : Nat := (l.map fun x => x.size + 1).sum
theorem sumS_cons (x : ByteArray) (l : List ByteArray) : sumS (x :: l) = (x.size + 1) + sumS l := by simp [sumS]
theorem sumS_length : ∀ l : List ByteArray, l.length ≤ sumS l
  | [] => Nat.le_refl _
  | x :: l => by
    have := sumS_length l
    rw [sumS_cons, List.length_cons]
    omega
theorem sumS_at : ∀ (l : List ByteArray) (x : ByteArray), x ∈ l → x.size + 1 ≤ sumS l
  | y :: l, x, h => by
    rw [sumS_cons]
    rcases List.mem_cons.1 h with rfl | h
    · omega
    · have := sumS_at l x h
      omega
theorem itemsP_length (s : ByteArray) : (itemsP s).length ≤ s.size + 1 := by
  unfold itemsP
  exact Nat.le_trans (List.length_filter_le _ _) (by rw [List.length_map]; exact partsB_length s)
theorem itemsP_size (s : ByteArray) : ∀ y ∈ itemsP s, y.size ≤ s.size := by
  intro y hy
  unfold itemsP at hy
  obtain ⟨p, hp, rfl⟩ := List.mem_map.1 (List.mem_filter.1 hy).1
  exact Nat.le_trans (trimS_size p) (partsB_size s p hp)
theorem itemsF_length : ∀ (l : List ByteArray) (i : Nat), (itemsF i l).length ≤ sumS l
  | [], _ => Nat.zero_le _
  | v :: l, i => by
    have h1 := itemsF_length l (i + 1)
    have h2 := itemsP_length v
    rw [itemsF, sumS_cons, List.length_append, List.length_map]
    omega
theorem itemsF_mem : ∀ (l : List ByteArray) (i : Nat) (y : Nat × ByteArray), y ∈ itemsF i l → i ≤ y.1 ∧ y.1 < i + l.length ∧ y.2.size ≤ sumS l
  | [], _, y, h => absurd h List.not_mem_nil
  | v :: l, i, y, h => by
    rw [itemsF] at h
    rw [sumS_cons, List.length_cons]
    rcases List.mem_append.1 h with h | h
    · obtain ⟨z, hz, rfl⟩ := List.mem_map.1 h
      have := itemsP_size v z hz
      exact ⟨Nat.le_refl _, by omega, by show z.size ≤ _; omega⟩
    · have := itemsF_mem l (i + 1) y h
      omega
theorem infoStr : (Tryd.prog.info? 9).map (fun i => (i.zero, i.size, i.bytes)) = some (some (.string ⟨#[]⟩), 1, 16) := by kernel_rfl
def strV (l : List ByteArray) : List Value := l.map Value.string
theorem strV_flat (l : List ByteArray) : l.flatMap (fun x => [Value.string x]) = strV l := by
  induction l with
  | nil => rfl
  | cons x l ih => rw [List.flatMap_cons, ih]; rfl
def itemsL (l : List ByteArray) : List ByteArray := (itemsF 0 l).map fun y => y.2
def snds (l : List (Nat × ByteArray)) : List ByteArray := l.map fun y => y.2
theorem row_strs {w : World} {base : Nat} {v : Value} {l : List ByteArray} (h : w.ownsRow base 9 1 v l.length (strV l)) : Kd.R Kd.string 9 w base (fun _ => True) v l :=
  row_of_owns Kd.string (fun x => [Value.string x]) (fun _ => rfl) (fun _ _ => rfl) (by rw [strV_flat]; exact h)
def cutL (c : UInt8) (s : ByteArray) : ByteArray := ⟨(Lib.cut s.data.toList [c]).1.toArray⟩
def wordS (s : ByteArray) : ByteArray := trimS (cutL 59 s)
theorem cutL_size (c : UInt8) (s : ByteArray) : (cutL c s).size ≤ s.size := by
  show (Lib.cut s.data.toList [c]).1.length ≤ _
  rw [size_eq_length]
  unfold Lib.cut
  split
  · rw [List.length_take]; omega
  · exact Nat.le_refl _
theorem wordS_size (s : ByteArray) : (wordS s).size ≤ s.size := Nat.le_trans (trimS_size _) (cutL_size _ _)
theorem list_word_eq (s : ByteArray) (hs : s.size < 4294967281) : list_word.f s = some (wordS s) := by
  unfold list_word.f strings_Cut.f octet_Trim.f
  rw [if_pos hs, Option.bind_some]
  have h := cutL_size 59 s
  have h2 : (cutL 59 s).size ≤ 140737488355328 := by omega
  show ((if (cutL 59 s).size ≤ 140737488355328 then some (trimS (cutL 59 s)) else none).bind fun t => some t) = some (wordS s)
  rw [if_pos h2]
  rfl
theorem word_calls (s : ByteArray) (w : World) (hs : s.size < 4294967281) (hG : TabOk w) :
    Calls Tryd.prog 59 #[.string s] w fun e w' => e = .returned (.string (wordS s)) ∧ Below w.heap.size w w' := list_word.calls s (wordS s) w hG (list_word_eq s hs)
def hasB (l : List ByteArray) (n : ByteArray) : Bool := l.any fun y => alikeB (wordS y) n
end Go.Proofs.YtoanmbhenmlboaaDoorH
end
section
namespace Go.Proofs.YtoanmbhenmlboaaDoorH
open Go.RowKit Go.Shelf Go.Proofs.YtoanmbhenmlboaaDoorW.PrintWords Go.Proofs.YtoanmbhenmlboaaDoorW.PrintLast Go.Proofs.YtoanmbhenmlboaaDoorW.PrintMore Go.Proofs.YtoanmbhenmlboaaDoor.Ps
attribute [local go_sem] Oper.semAt_some
theorem results_cells2 {fn : Func} {p q : Tmp} {t u : TypeId} (h : fn.results = #[.cell p t, .cell q u]) (tmps : Array Value) (P : Program) (w : World) (a b : Addr) (v x : Value)
    (hp : tmps.getD p undef = .pointer (some a)) (hA : (isAgg t).run P w = .ok false w) (hc : w.cell? a = some v) (hq : tmps.getD q undef = .pointer (some b)) (hB : (isAgg u).run P w = .ok false w) (hd : w.cell? b = some x) : (results fn tmps).run P w = .ok (.tuple #[v, x]) w := by
  rw [Array.getD_eq_getD_getElem?] at hp hq
  simp only [results, h]
  simp [Sem.run_bind, Result.andThen, hp, hq, loadVar, hA, hB, asAddr, go_sem, hc, hd]
def codeS (y : ByteArray) : ByteArray := smallS (wordS y)
def codesL (l : List ByteArray) : List ByteArray := l.map codeS
def badW (l : List ByteArray) : Bool := l.any fun y => !(tokB (wordS y))
theorem badW_snoc (l : List ByteArray) (y : ByteArray) : badW (l ++ [y]) = (badW l || !(tokB (wordS y))) := by
  unfold badW
  rw [List.any_append]
  simp
def codR (xs : List ByteArray) : List ByteArray × Int :=
  if xs.length = 0 then ([], 7) else if badW (itemsL xs) = true then ([], 2) else if (itemsL xs).length = 0 then ([], 2) else (codesL (itemsL xs), 0)
set_option maxRecDepth 100000 in
set_option maxHeartbeats 2000000 in
theorem Codings_in (n : Nat) (hn : 7 ≤ n) (A0 : Option Addr) (c0 : Nat) (xs : List ByteArray) (hS : sumS xs ≤ 1000000) (hc0 : xs.length ≤ c0) (w : World) (hG : TabOk w) (hr : Kd.C Kd.string w A0 xs.length xs) :
    CallsIn Fence.wide n Tryd.prog 53 #[.slice A0 xs.length c0] w fun e w' => ∃ (v : Value) (l : List ByteArray) (er : Int), e = .returned (.tuple #[v, .int .i64 er]) ∧ codR xs = (l, er) ∧ Kd.R Kd.string 9 w' w.heap.size (fun _ => True) v l ∧ Below w.heap.size w w' := by
  have h1 : 1 ≤ n := by omega
  have hlen := sumS_length xs
  have bA : ∀ W : World, (isAgg 38).run Tryd.prog W = .ok false W := run_isAgg_plain Tryd.underlying38 rfl
  have bB : ∀ W : World, (isAgg 26).run Tryd.prog W = .ok false W := run_isAgg_plain Tryd.underlying26 rfl
  refine callsIn_of_wp_marks Tryd.func53 rfl trivial ?_ rfl
  simp only [Tryd.ntmps53, List.size_toArray, List.length_cons, List.length_nil, Nat.reduceAdd, Nat.reduceSub, Array.replicate_succ, Array.replicate_zero, List.push_toArray, List.append_toArray, List.nil_append, List.cons_append]
  by_cases hx0 : xs.length = 0
  · have hz : (xs.length : Int) = 0 := by omega
    have hz2 : ((xs.length : Int) == 0) = true := by rw [hz]; rfl
    have e1 := Aside0.mk (show codR xs = ([], 7) by unfold codR; rw [if_pos hx0])
    have b1 : Boxed ((w.alloc (.cells #[.slice none 0 0] 38)).alloc (.cells #[.int .i64 7] 26)) w.heap.size 38 (.slice none 0 0) := (Boxed.new w _ _).alloc _
    have b2 : Boxed ((w.alloc (.cells #[.slice none 0 0] 38)).alloc (.cells #[.int .i64 7] 26)) (w.heap.size + 1) 26 (.int .i64 7) := by
      have := Boxed.new (w.alloc (.cells #[.slice none 0 0] 38)) 26 (.int .i64 7)
      rwa [World.size_alloc] at this
    have B1 := Aside0.mk b1
    have B2 := Aside0.mk b2
    clear b1 b2
    gi_wp2
    refine ⟨_, results_cells2 rfl _ _ _ ⟨w.heap.size, 0, none⟩ ⟨w.heap.size + 1, 0, none⟩ (.slice none 0 0) (.int .i64 7) rfl (bA _) B1.out.cell rfl (bB _) B2.out.cell, ?_⟩
    exact ⟨_, [], 7, rfl, e1.out, Kd.R_nil _ _ _ _ _, below_alloc (below_alloc (Below.refl _ _) _) _⟩
  · have hz : ¬ (xs.length : Int) = 0 := by omega
    have HIT := Aside0.mk (items_calls A0 xs.length c0 (((w.alloc (.cells #[.slice none 0 0] 38)).alloc (.cells #[.int .i64 0] 26)).alloc (.cells #[.slice none 0 0] 38)))
    gi_wp2
    refine ⟨trivial, ?_⟩
    refine (callsIn_wide.2 HIT.out).mono ?_
    rintro e w2 ⟨rfl, rfl⟩
    clear HIT
    gi_wp2
    have HB2 := Aside0.mk (show Below w.heap.size w ((((w.alloc (.cells #[.slice none 0 0] 38)).alloc (.cells #[.int .i64 0] 26)).alloc (.cells #[.slice none 0 0] 38)).alloc (.cells #[.slice A0 xs.length c0] 38)) from below_alloc (below_alloc (below_alloc (below_alloc (Below.refl _ _) _) _) _) _)
    have HR1 := Aside0.mk (show Boxed ((((w.alloc (.cells #[.slice none 0 0] 38)).alloc (.cells #[.int .i64 0] 26)).alloc (.cells #[.slice none 0 0] 38)).alloc (.cells #[.slice A0 xs.length c0] 38)) w.heap.size 38 (.slice none 0 0) from (((Boxed.new w _ _).alloc _).alloc _).alloc _)
    have HR2 := Aside0.mk (show Boxed ((((w.alloc (.cells #[.slice none 0 0] 38)).alloc (.cells #[.int .i64 0] 26)).alloc (.cells #[.slice none 0 0] 38)).alloc (.cells #[.slice A0 xs.length c0] 38)) (w.heap.size + 1) 26 (.int .i64 0) by
      have := Boxed.new (w.alloc (.cells #[.slice none 0 0] 38)) 26 (.int .i64 0)
      rw [World.size_alloc] at this
      exact (this.alloc _).alloc _)
    have HBo := Aside0.mk (show Boxed ((((w.alloc (.cells #[.slice none 0 0] 38)).alloc (.cells #[.int .i64 0] 26)).alloc (.cells #[.slice none 0 0] 38)).alloc (.cells #[.slice A0 xs.length c0] 38)) (w.heap.size + 1 + 1) 38 (.slice none 0 0) by
      have := Boxed.new ((w.alloc (.cells #[.slice none 0 0] 38)).alloc (.cells #[.int .i64 0] 26)) 38 (.slice none 0 0)
      rw [World.size_alloc, World.size_alloc] at this
      exact this.alloc _)
    have HBv := Aside0.mk (show Boxed ((((w.alloc (.cells #[.slice none 0 0] 38)).alloc (.cells #[.int .i64 0] 26)).alloc (.cells #[.slice none 0 0] 38)).alloc (.cells #[.slice A0 xs.length c0] 38)) (w.heap.size + 1 + 1 + 1) 38 (.slice A0 xs.length c0) by
      have := Boxed.new (((w.alloc (.cells #[.slice none 0 0] 38)).alloc (.cells #[.int .i64 0] 26)).alloc (.cells #[.slice none 0 0] 38)) 38 (.slice A0 xs.length c0)
      rwa [World.size_alloc, World.size_alloc, World.size_alloc] at this)
    have s2 : ((((w.alloc (.cells #[.slice none 0 0] 38)).alloc (.cells #[.int .i64 0] 26)).alloc (.cells #[.slice none 0 0] 38)).alloc (.cells #[.slice A0 xs.length c0] 38)).heap.size = w.heap.size + 4 := by simp only [World.size_alloc]
    generalize ((((w.alloc (.cells #[.slice none 0 0] 38)).alloc (.cells #[.int .i64 0] 26)).alloc (.cells #[.slice none 0 0] 38)).alloc (.cells #[.slice A0 xs.length c0] 38)) = w2 at *
    have HSQ := Aside0.mk (items_own (n - 1) (by omega) (w.heap.size + 1 + 1 + 1) A0 c0 xs (fun x hx => by have := sumS_at xs x hx; omega) hc0 (by omega) w hG hr w2 (Lies.below HB2.out) HBv.out (by omega))
    have HMM := Aside0.mk (itemsF_mem xs 0)
    have HLL := Aside0.mk (itemsF_length xs 0)
    refine wpIn_range_own (F := Fence.wide) rfl rfl h1 (gf := 73) (lb := #[.pointer (some ⟨w.heap.size + 1 + 1 + 1, 0, none⟩)]) (by first | rfl | simp) trivial (enters_of Tryd.func73 (by kernel_rfl) rfl) HSQ.out (Below.refl _ _) (fun r h => h.elim)
      (by rintro r (h | rfl) <;> omega) (fun _ => rfl) none (fun q e => by cases e)
      (fun pre g W => ((∀ q, g = some q → w.heap.size + 6 ≤ q) ∧ ∃ v, v.ownBlock = g ∧ Boxed W (w.heap.size + 1 + 1) 38 v ∧ W.ownsRow w.heap.size 9 1 v pre.length (strV (codesL (snds pre)))) ∧ (Boxed W w.heap.size 38 (.slice none 0 0) ∧ (Boxed W (w.heap.size + 1) 26 (.int .i64 0) ∧ (Below w.heap.size w W ∧ badW (snds pre) = false))))
      (fun c pre g W => (∀ q, g = some q → w.heap.size + 6 ≤ q) ∧ (Boxed W w.heap.size 38 (.slice none 0 0) ∧ (Boxed W (w.heap.size + 1) 26 (.int .i64 2) ∧ (Below w.heap.size w W ∧ (c = .ret ∧ badW (snds pre) = true)))))
      (Abd.and (Abd.rowed (fun pre => pre.length) (fun pre => strV (codesL (snds pre))) _ (by omega) (by omega) (fun h => h) (fun r h => h.elim)) (Abd.and (Abd.block (fun _ => .cells #[.slice none 0 0] 38 (0, 0)) (by omega) (fun h => h)) (Abd.and (Abd.block (fun _ => .cells #[.int .i64 0] 26 (0, 0)) (by omega) (fun h => h)) (Abd.and (Abd.low (by omega) (Nat.le_refl _) (fun r h => h.elim)) (Abd.pure (β := List (Nat × ByteArray)) (fun pre _ => badW (snds pre) = false))))))
      (fun c => Abd.and (Abd.pure (β := List (Nat × ByteArray)) (fun _ g => ∀ q, g = some q → w.heap.size + 6 ≤ q)) (Abd.and (Abd.block (fun _ => .cells #[.slice none 0 0] 38 (0, 0)) (by omega) (fun h => h)) (Abd.and (Abd.block (fun _ => .cells #[.int .i64 2] 26 (0, 0)) (by omega) (fun h => h)) (Abd.and (Abd.low (by omega) (Nat.le_refl _) (fun r h => h.elim)) (Abd.pure (fun pre _ => c = .ret ∧ badW (snds pre) = true))))))
      ⟨⟨(fun q e => by cases e), _, rfl, HBo.out, World.ownsRow_nil _ _ _ _⟩, HR1.out, HR2.out, HB2.out, rfl⟩
      (fun pre g W q h e => .inr (by have := h.1.1 q e; omega)) (fun c pre g W q h e => .inr (by have := h.1 q e; omega))
      (fun x a' _ => a' = { tmps := #[Value.slice A0 xs.length c0, undef, Value.pointer (some { block := w.heap.size, off := 0 }), Value.pointer (some { block := w.heap.size + 1, off := 0 }), Value.pointer (some { block := w.heap.size + 1 + 1, off := 0 }), undef, Value.string x.2, undef,
        Value.slice A0 xs.length c0, Value.int IntKind.i64 (xs.length : Int), Value.bool false, Value.slice A0 xs.length c0, Value.func (Fn.func 73) #[] #[Value.pointer (some { block := w.heap.size + 1 + 1 + 1, off := 0 })],
        Value.int IntKind.i64 ((x.1 : Nat) : Int), Value.string x.2, undef, undef, undef, undef, undef, undef, undef, undef, undef, undef, undef, undef, undef, undef], defers := [] })
      (fun x a' _ _ _ _ _ h _ _ => h) ?assign ?body ?done ?stop
    case assign =>
      intro l pre x g W K hI hK
      dsimp only [encI]
      gi_wp2
      exact hK _ _ (Spares.refl _ _ _) hI rfl
    case body =>
      rintro l pre ⟨at', y⟩ g a' W hW2 ⟨⟨hgq, v, rfl, hbw, hrow⟩, hr1, hr2, hBW, hno⟩ rfl hsp
      have hyz : y.size ≤ sumS xs := (HMM.out (at', y) (hsp.subset (List.mem_append_right _ List.mem_cons_self))).2.2
      have hwz := wordS_size y
      have hpl : pre.length + 1 ≤ 1000000 := by
        have h1 := hsp.length_le
        have h2 := HLL.out
        rw [List.length_append, List.length_singleton] at h1
        omega
      have HWD := Aside0.mk (word_calls y W (by omega) (hG.below hBW))
      have HTK := Aside0.mk (fun W1 (hb : Below W.heap.size W W1) => token_calls (wordS y) W1 (by omega) (hG.below (hBW.trans (hb.mono hBW.size))))
      have HSM := Aside0.mk (fun W1 (hb : Below W.heap.size W W1) => small_calls (wordS y) W1 (by omega) (hG.below (hBW.trans (hb.mono hBW.size))))
      have HH := Aside0.mk (badW_snoc (snds pre) y)
      rw [hno, Bool.false_or] at HH
      have HGQ := Aside0.mk hgq
      have HROW := Aside0.mk hrow
      have HBW := Aside0.mk hBW
      have HBX := Aside0.mk hbw
      have HX1 := Aside0.mk hr1
      have HX2 := Aside0.mk hr2
      clear hgq hrow hBW hbw hsp hr1 hr2 hno
      gi_wp2
      refine ⟨trivial, (fun _ => by omega), ?_⟩
      refine (CallsIn.inRound l (callsIn_wide.2 HWD.out)).mono ?_
      rintro e w5 ⟨rfl, b5⟩
      have HB5 := Aside0.mk b5
      clear b5 HWD
      gi_wp2
      refine ⟨trivial, (fun _ => by omega), ?_⟩
      refine (CallsIn.inRound l (callsIn_wide.2 (HTK.out w5 HB5.out))).mono ?_
      rintro e w6 ⟨rfl, b6⟩
      have HB6 := Aside0.mk (HB5.out.trans (b6.mono HB5.out.size))
      have HY1 := Aside0.mk (show Boxed w6 w.heap.size 38 (.slice none 0 0) from (HB6.out.block _ HX1.out.lt).trans HX1.out)
      have HY2 := Aside0.mk (show Boxed w6 (w.heap.size + 1) 26 (.int .i64 0) from (HB6.out.block _ HX2.out.lt).trans HX2.out)
      have HYo := Aside0.mk (show Boxed w6 (w.heap.size + 1 + 1) 38 v from (HB6.out.block _ HBX.out.lt).trans HBX.out)
      have HYr := Aside0.mk (show w6.ownsRow w.heap.size 9 1 v pre.length (strV (codesL (snds pre))) from own_move HROW.out (fun k hk => HB6.out.block k (own_lt HROW.out k hk)))
      have HW6 := Aside0.mk (HBW.out.trans (HB6.out.mono HBW.out.size))
      clear b6 HTK
      cases ht : tokB (wordS y) with
      | false =>
        rw [ht] at HH
        clear ht
        have hc1 := HY1.out.cell
        have hf1 := HY1.out.frozen
        have hc2 := (HY2.out.kept (grownBy_setCell' w6 w.heap.size (.slice none 0 0)) (by simp)).cell
        have hf2 := (HY2.out.kept (grownBy_setCell' w6 w.heap.size (.slice none 0 0)) (by simp)).frozen
        gi_wp2
        refine ⟨v.ownBlock, ((Spares.below HB6.out).trans (Spares.turned (grownBy_setCell' w6 w.heap.size (.slice none 0 0)) (fun r e hk => by cases e; rcases hk with h | h | h <;> omega))).trans (Spares.turned (grownBy_setCell' _ (w.heap.size + 1) (.int .i64 2)) (fun r e hk => by cases e; rcases hk with h | h | h <;> omega)),
          HGQ.out, (HY1.out.set _).other (by omega) _, (HY2.out.other (by omega) _).set _, (HW6.out.setCell (p := ⟨w.heap.size, 0, none⟩) (Nat.le_refl _) _).setCell (p := ⟨w.heap.size + 1, 0, none⟩) (Nat.le_succ _) _, rfl, ?_⟩
        unfold snds at *
        rw [List.map_append]
        exact HH.out
      | true =>
        rw [ht] at HH
        clear ht
        have hmx : Tryd.prog.follows .mixedOrders = true := by kernel_rfl
        have hco := HYo.out.cell
        have hcd : w6.drew.cell? ⟨w.heap.size + 1 + 1, 0, none⟩ = some v := hco
        gi_wp2
        refine wpIn_region_any hmx ?_
        change wpAnyIn _ _ _ _ _ _ _ _ _ w6.drew
        refine wpAnyIn_ready (rs := [0, 1]) (by kernel_rfl) (by simp) ?_
        refine AllReadyIn.cons rfl (fun K hK => ?_) ?_
        ·
          go_simp
          refine hK _ _ ?_
          clear hK K
          refine wpAnyIn_ready (rs := [1]) (by kernel_rfl) (by simp) ?_
          refine AllReadyIn.cons rfl (fun K hK => ?_) ?_
          ·
            go_simp
            refine hK _ _ ?_
            clear hK K
            refine wpAnyIn_ready (rs := [2]) (by kernel_rfl) (by simp) ?_
            refine AllReadyIn.cons rfl (fun K hK => ?_) ?_
            ·
              go_simp
              refine ⟨trivial, (fun _ => by omega), ?_⟩
              refine (CallsIn.inRound l (callsIn_wide.2 (HSM.out w6.drew HB6.out.drew))).mono ?_
              rintro e w7 ⟨rfl, b7⟩
              have HB7 := Aside0.mk (((Below.refl w6.heap.size w6).drew).trans (b7.mono (Nat.le_refl _)))
              have HZ1 := Aside0.mk (show Boxed w7 w.heap.size 38 (.slice none 0 0) from (HB7.out.block _ HY1.out.lt).trans HY1.out)
              have HZ2 := Aside0.mk (show Boxed w7 (w.heap.size + 1) 26 (.int .i64 0) from (HB7.out.block _ HY2.out.lt).trans HY2.out)
              have HZo := Aside0.mk (show Boxed w7 (w.heap.size + 1 + 1) 38 v from (HB7.out.block _ HYo.out.lt).trans HYo.out)
              have HZr := Aside0.mk (show w7.ownsRow w.heap.size 9 1 v pre.length (strV (codesL (snds pre))) from own_move HYr.out (fun k hk => HB7.out.block k (own_lt HYr.out k hk)))
              have hc7 := HZo.out.cell
              have hc8 := (HZo.out.alloc (.cells #[.string (smallS (wordS y))] 9)).cell
              clear b7
              refine hK _ _ ?_
              clear hK K
              refine wpAnyIn_ready (rs := [3]) (by kernel_rfl) (by simp) ?_
              refine AllReadyIn.cons rfl (fun K hK => ?_) ?_
              ·
                go_simp
                refine hK _ _ ?_
                clear hK K
                refine wpAnyIn_ready (rs := [4]) (by kernel_rfl) (by simp) ?_
                refine AllReadyIn.cons rfl (fun K hK => ?_) ?_
                ·
                  refine any_append w.heap.size rfl _ _ 38 9 (.string ⟨#[]⟩) 1 16 rfl Tryd.underlying38 infoStr rfl (by decide) (by omega) v pre.length (strV (codesL (snds pre))) [.string (smallS (wordS y))] rfl ?hx rfl ?one HZr.out ?base ?lim ?_
                  case hx => rfl
                  case one =>
                    intro u hu
                    rcases List.mem_singleton.1 hu with rfl
                    rfl
                  case base => have := HW6.out.size; have := HB7.out.size; omega
                  case lim => omega
                  intro v1 w3 ho3 hg3 hat3
                  obtain ⟨g', cap', rfl⟩ := ownsRow_succ ho3
                  obtain ⟨hv1, hv2, hr2, hk2, hb2⟩ := collected (K := fun k => w2.heap.size ≤ k ∨ (k < w.heap.size ∨ k = w.heap.size + 1 + 1 + 1)) HZo.out (by decide) HZr.out (by omega) (Nat.le_add_right _ 2) ho3 hg3 hat3
                  have HE1 := Aside0.mk (collected_box (B := w.heap.size + 1 + 1) hg3 HZr.out HZ1.out (by decide) (by omega) (Value.slice (some { block := g', off := 0 }) (pre.length + 1) cap'))
                  have HE2 := Aside0.mk (collected_box (B := w.heap.size + 1 + 1) hg3 HZr.out HZ2.out (by decide) (by omega) (Value.slice (some { block := g', off := 0 }) (pre.length + 1) cap'))
                  have hc1 := hv1.cell
                  have hf1 := hv1.frozen
                  have HV2 := Aside0.mk hv2
                  have HRR := Aside0.mk hr2
                  have HK2 := Aside0.mk hk2
                  have HB3 := Aside0.mk hb2
                  clear hv1 hv2 hr2 hk2 hb2 ho3 hg3 hat3
                  refine hK _ _ ?_
                  clear hK K
                  refine wpAnyIn_ready (rs := [5]) (by kernel_rfl) (by simp) ?_
                  refine AllReadyIn.cons rfl (fun K hK => ?_) ?_
                  ·
                    go_simp
                    refine hK _ _ ?_
                    clear hK K
                    refine wpAnyIn_done (by kernel_rfl) ?_ _
                    gi_wp2
                    refine ⟨_, ((Spares.below HB6.out).trans (Spares.below HB7.out)).trans HK2.out, ⟨HK2.out.ge (n := w.heap.size + 6) (by have := HB6.out.size; have := HB7.out.size; omega) HGQ.out, _, rfl, HV2.out, ?_⟩, ?_, ?_, (HW6.out.trans (HB7.out.mono HW6.out.size)).trans HB3.out, ?_⟩
                    · rw [List.length_append]; unfold snds codesL strV at *; rw [List.map_append, List.map_append, List.map_append]; exact HRR.out
                    · exact HE1.out
                    · exact HE2.out
                    · unfold snds at *; rw [List.map_append]; exact HH.out
                  exact AllReadyIn.nil
                exact AllReadyIn.nil
              exact AllReadyIn.nil
            exact AllReadyIn.nil
          exact AllReadyIn.nil
        refine AllReadyIn.cons rfl (fun K hK => ?_) ?_
        ·
          go_simp
          refine hK _ _ ?_
          clear hK K
          refine wpAnyIn_ready (rs := [0, 2]) (by kernel_rfl) (by simp) ?_
          refine AllReadyIn.cons rfl (fun K hK => ?_) ?_
          ·
            go_simp
            refine hK _ _ ?_
            clear hK K
            refine wpAnyIn_ready (rs := [2]) (by kernel_rfl) (by simp) ?_
            refine AllReadyIn.cons rfl (fun K hK => ?_) ?_
            ·
              go_simp
              refine ⟨trivial, (fun _ => by omega), ?_⟩
              refine (CallsIn.inRound l (callsIn_wide.2 (HSM.out w6.drew HB6.out.drew))).mono ?_
              rintro e w7 ⟨rfl, b7⟩
              have HB7 := Aside0.mk (((Below.refl w6.heap.size w6).drew).trans (b7.mono (Nat.le_refl _)))
              have HZ1 := Aside0.mk (show Boxed w7 w.heap.size 38 (.slice none 0 0) from (HB7.out.block _ HY1.out.lt).trans HY1.out)
              have HZ2 := Aside0.mk (show Boxed w7 (w.heap.size + 1) 26 (.int .i64 0) from (HB7.out.block _ HY2.out.lt).trans HY2.out)
              have HZo := Aside0.mk (show Boxed w7 (w.heap.size + 1 + 1) 38 v from (HB7.out.block _ HYo.out.lt).trans HYo.out)
              have HZr := Aside0.mk (show w7.ownsRow w.heap.size 9 1 v pre.length (strV (codesL (snds pre))) from own_move HYr.out (fun k hk => HB7.out.block k (own_lt HYr.out k hk)))
              have hc7 := HZo.out.cell
              have hc8 := (HZo.out.alloc (.cells #[.string (smallS (wordS y))] 9)).cell
              clear b7
              refine hK _ _ ?_
              clear hK K
              refine wpAnyIn_ready (rs := [3]) (by kernel_rfl) (by simp) ?_
              refine AllReadyIn.cons rfl (fun K hK => ?_) ?_
              ·
                go_simp
                refine hK _ _ ?_
                clear hK K
                refine wpAnyIn_ready (rs := [4]) (by kernel_rfl) (by simp) ?_
                refine AllReadyIn.cons rfl (fun K hK => ?_) ?_
                ·
                  refine any_append w.heap.size rfl _ _ 38 9 (.string ⟨#[]⟩) 1 16 rfl Tryd.underlying38 infoStr rfl (by decide) (by omega) v pre.length (strV (codesL (snds pre))) [.string (smallS (wordS y))] rfl ?hx rfl ?one HZr.out ?base ?lim ?_
                  case hx => rfl
                  case one =>
                    intro u hu
                    rcases List.mem_singleton.1 hu with rfl
                    rfl
                  case base => have := HW6.out.size; have := HB7.out.size; omega
                  case lim => omega
                  intro v1 w3 ho3 hg3 hat3
                  obtain ⟨g', cap', rfl⟩ := ownsRow_succ ho3
                  obtain ⟨hv1, hv2, hr2, hk2, hb2⟩ := collected (K := fun k => w2.heap.size ≤ k ∨ (k < w.heap.size ∨ k = w.heap.size + 1 + 1 + 1)) HZo.out (by decide) HZr.out (by omega) (Nat.le_add_right _ 2) ho3 hg3 hat3
                  have HE1 := Aside0.mk (collected_box (B := w.heap.size + 1 + 1) hg3 HZr.out HZ1.out (by decide) (by omega) (Value.slice (some { block := g', off := 0 }) (pre.length + 1) cap'))
                  have HE2 := Aside0.mk (collected_box (B := w.heap.size + 1 + 1) hg3 HZr.out HZ2.out (by decide) (by omega) (Value.slice (some { block := g', off := 0 }) (pre.length + 1) cap'))
                  have hc1 := hv1.cell
                  have hf1 := hv1.frozen
                  have HV2 := Aside0.mk hv2
                  have HRR := Aside0.mk hr2
                  have HK2 := Aside0.mk hk2
                  have HB3 := Aside0.mk hb2
                  clear hv1 hv2 hr2 hk2 hb2 ho3 hg3 hat3
                  refine hK _ _ ?_
                  clear hK K
                  refine wpAnyIn_ready (rs := [5]) (by kernel_rfl) (by simp) ?_
                  refine AllReadyIn.cons rfl (fun K hK => ?_) ?_
                  ·
                    go_simp
                    refine hK _ _ ?_
                    clear hK K
                    refine wpAnyIn_done (by kernel_rfl) ?_ _
                    gi_wp2
                    refine ⟨_, ((Spares.below HB6.out).trans (Spares.below HB7.out)).trans HK2.out, ⟨HK2.out.ge (n := w.heap.size + 6) (by have := HB6.out.size; have := HB7.out.size; omega) HGQ.out, _, rfl, HV2.out, ?_⟩, ?_, ?_, (HW6.out.trans (HB7.out.mono HW6.out.size)).trans HB3.out, ?_⟩
                    · rw [List.length_append]; unfold snds codesL strV at *; rw [List.map_append, List.map_append, List.map_append]; exact HRR.out
                    · exact HE1.out
                    · exact HE2.out
                    · unfold snds at *; rw [List.map_append]; exact HH.out
                  exact AllReadyIn.nil
                exact AllReadyIn.nil
              exact AllReadyIn.nil
            exact AllReadyIn.nil
          refine AllReadyIn.cons rfl (fun K hK => ?_) ?_
          ·
            go_simp
            refine ⟨trivial, (fun _ => by omega), ?_⟩
            refine (CallsIn.inRound l (callsIn_wide.2 (HSM.out w6.drew HB6.out.drew))).mono ?_
            rintro e w7 ⟨rfl, b7⟩
            have HB7 := Aside0.mk (((Below.refl w6.heap.size w6).drew).trans (b7.mono (Nat.le_refl _)))
            have HZ1 := Aside0.mk (show Boxed w7 w.heap.size 38 (.slice none 0 0) from (HB7.out.block _ HY1.out.lt).trans HY1.out)
            have HZ2 := Aside0.mk (show Boxed w7 (w.heap.size + 1) 26 (.int .i64 0) from (HB7.out.block _ HY2.out.lt).trans HY2.out)
            have HZo := Aside0.mk (show Boxed w7 (w.heap.size + 1 + 1) 38 v from (HB7.out.block _ HYo.out.lt).trans HYo.out)
            have HZr := Aside0.mk (show w7.ownsRow w.heap.size 9 1 v pre.length (strV (codesL (snds pre))) from own_move HYr.out (fun k hk => HB7.out.block k (own_lt HYr.out k hk)))
            have hc7 := HZo.out.cell
            have hc8 := (HZo.out.alloc (.cells #[.string (smallS (wordS y))] 9)).cell
            clear b7
            refine hK _ _ ?_
            clear hK K
            refine wpAnyIn_ready (rs := [0, 3]) (by kernel_rfl) (by simp) ?_
            refine AllReadyIn.cons rfl (fun K hK => ?_) ?_
            ·
              go_simp
              refine hK _ _ ?_
              clear hK K
              refine wpAnyIn_ready (rs := [3]) (by kernel_rfl) (by simp) ?_
              refine AllReadyIn.cons rfl (fun K hK => ?_) ?_
              ·
                go_simp
                refine hK _ _ ?_
                clear hK K
                refine wpAnyIn_ready (rs := [4]) (by kernel_rfl) (by simp) ?_
                refine AllReadyIn.cons rfl (fun K hK => ?_) ?_
                ·
                  refine any_append w.heap.size rfl _ _ 38 9 (.string ⟨#[]⟩) 1 16 rfl Tryd.underlying38 infoStr rfl (by decide) (by omega) v pre.length (strV (codesL (snds pre))) [.string (smallS (wordS y))] rfl ?hx rfl ?one HZr.out ?base ?lim ?_
                  case hx => rfl
                  case one =>
                    intro u hu
                    rcases List.mem_singleton.1 hu with rfl
                    rfl
                  case base => have := HW6.out.size; have := HB7.out.size; omega
                  case lim => omega
                  intro v1 w3 ho3 hg3 hat3
                  obtain ⟨g', cap', rfl⟩ := ownsRow_succ ho3
                  obtain ⟨hv1, hv2, hr2, hk2, hb2⟩ := collected (K := fun k => w2.heap.size ≤ k ∨ (k < w.heap.size ∨ k = w.heap.size + 1 + 1 + 1)) HZo.out (by decide) HZr.out (by omega) (Nat.le_add_right _ 2) ho3 hg3 hat3
                  have HE1 := Aside0.mk (collected_box (B := w.heap.size + 1 + 1) hg3 HZr.out HZ1.out (by decide) (by omega) (Value.slice (some { block := g', off := 0 }) (pre.length + 1) cap'))
                  have HE2 := Aside0.mk (collected_box (B := w.heap.size + 1 + 1) hg3 HZr.out HZ2.out (by decide) (by omega) (Value.slice (some { block := g', off := 0 }) (pre.length + 1) cap'))
                  have hc1 := hv1.cell
                  have hf1 := hv1.frozen
                  have HV2 := Aside0.mk hv2
                  have HRR := Aside0.mk hr2
                  have HK2 := Aside0.mk hk2
                  have HB3 := Aside0.mk hb2
                  clear hv1 hv2 hr2 hk2 hb2 ho3 hg3 hat3
                  refine hK _ _ ?_
                  clear hK K
                  refine wpAnyIn_ready (rs := [5]) (by kernel_rfl) (by simp) ?_
                  refine AllReadyIn.cons rfl (fun K hK => ?_) ?_
                  ·
                    go_simp
                    refine hK _ _ ?_
                    clear hK K
                    refine wpAnyIn_done (by kernel_rfl) ?_ _
                    gi_wp2
                    refine ⟨_, ((Spares.below HB6.out).trans (Spares.below HB7.out)).trans HK2.out, ⟨HK2.out.ge (n := w.heap.size + 6) (by have := HB6.out.size; have := HB7.out.size; omega) HGQ.out, _, rfl, HV2.out, ?_⟩, ?_, ?_, (HW6.out.trans (HB7.out.mono HW6.out.size)).trans HB3.out, ?_⟩
                    · rw [List.length_append]; unfold snds codesL strV at *; rw [List.map_append, List.map_append, List.map_append]; exact HRR.out
                    · exact HE1.out
                    · exact HE2.out
                    · unfold snds at *; rw [List.map_append]; exact HH.out
                  exact AllReadyIn.nil
                exact AllReadyIn.nil
              exact AllReadyIn.nil
            refine AllReadyIn.cons rfl (fun K hK => ?_) ?_
            ·
              go_simp
              refine hK _ _ ?_
              clear hK K
              refine wpAnyIn_ready (rs := [0]) (by kernel_rfl) (by simp) ?_
              refine AllReadyIn.cons rfl (fun K hK => ?_) ?_
              ·
                go_simp
                refine hK _ _ ?_
                clear hK K
                refine wpAnyIn_ready (rs := [4]) (by kernel_rfl) (by simp) ?_
                refine AllReadyIn.cons rfl (fun K hK => ?_) ?_
                ·
                  refine any_append w.heap.size rfl _ _ 38 9 (.string ⟨#[]⟩) 1 16 rfl Tryd.underlying38 infoStr rfl (by decide) (by omega) v pre.length (strV (codesL (snds pre))) [.string (smallS (wordS y))] rfl ?hx rfl ?one HZr.out ?base ?lim ?_
                  case hx => rfl
                  case one =>
                    intro u hu
                    rcases List.mem_singleton.1 hu with rfl
                    rfl
                  case base => have := HW6.out.size; have := HB7.out.size; omega
                  case lim => omega
                  intro v1 w3 ho3 hg3 hat3
                  obtain ⟨g', cap', rfl⟩ := ownsRow_succ ho3
                  obtain ⟨hv1, hv2, hr2, hk2, hb2⟩ := collected (K := fun k => w2.heap.size ≤ k ∨ (k < w.heap.size ∨ k = w.heap.size + 1 + 1 + 1)) HZo.out (by decide) HZr.out (by omega) (Nat.le_add_right _ 2) ho3 hg3 hat3
                  have HE1 := Aside0.mk (collected_box (B := w.heap.size + 1 + 1) hg3 HZr.out HZ1.out (by decide) (by omega) (Value.slice (some { block := g', off := 0 }) (pre.length + 1) cap'))
                  have HE2 := Aside0.mk (collected_box (B := w.heap.size + 1 + 1) hg3 HZr.out HZ2.out (by decide) (by omega) (Value.slice (some { block := g', off := 0 }) (pre.length + 1) cap'))
                  have hc1 := hv1.cell
                  have hf1 := hv1.frozen
                  have HV2 := Aside0.mk hv2
                  have HRR := Aside0.mk hr2
                  have HK2 := Aside0.mk hk2
                  have HB3 := Aside0.mk hb2
                  clear hv1 hv2 hr2 hk2 hb2 ho3 hg3 hat3
                  refine hK _ _ ?_
                  clear hK K
                  refine wpAnyIn_ready (rs := [5]) (by kernel_rfl) (by simp) ?_
                  refine AllReadyIn.cons rfl (fun K hK => ?_) ?_
                  ·
                    go_simp
                    refine hK _ _ ?_
                    clear hK K
                    refine wpAnyIn_done (by kernel_rfl) ?_ _
                    gi_wp2
                    refine ⟨_, ((Spares.below HB6.out).trans (Spares.below HB7.out)).trans HK2.out, ⟨HK2.out.ge (n := w.heap.size + 6) (by have := HB6.out.size; have := HB7.out.size; omega) HGQ.out, _, rfl, HV2.out, ?_⟩, ?_, ?_, (HW6.out.trans (HB7.out.mono HW6.out.size)).trans HB3.out, ?_⟩
                    · rw [List.length_append]; unfold snds codesL strV at *; rw [List.map_append, List.map_append, List.map_append]; exact HRR.out
                    · exact HE1.out
                    · exact HE2.out
                    · unfold snds at *; rw [List.map_append]; exact HH.out
                  exact AllReadyIn.nil
                exact AllReadyIn.nil
              exact AllReadyIn.nil
            exact AllReadyIn.nil
          exact AllReadyIn.nil
        exact AllReadyIn.nil
    case done =>
      rintro D ys g W hD rfl ⟨⟨hgq, v, rfl, hbw, hrow⟩, hr1, hr2, hBW, hno⟩ hK
      obtain ⟨a0, c1, hv0, hcl1⟩ := owns_slice2 hrow
      subst hv0
      have hco := hbw.cell
      have hcc1 := hr1.cell
      have hff1 := hr1.frozen
      have hil : (itemsL xs).length = (itemsF 0 xs).length := by unfold itemsL; rw [List.length_map]
      by_cases hz0 : (itemsF 0 xs).length = 0
      · obtain ⟨q1, q2, q3, q4, _⟩ := closed2 (n₀ := w.heap.size) hr1 hr2 (by omega) (Nat.le_refl _) (by omega) (by omega) hK (.slice none 0 0) (.int .i64 2)
        have Q1 := Aside0.mk q1
        have Q2 := Aside0.mk q2
        have Q3 := Aside0.mk q3
        have Q4 := Aside0.mk (hBW.trans q4)
        have hcc2 := (hr2.other (by omega) (.slice none 0 0) : Boxed (W.setCell ⟨w.heap.size, 0, none⟩ (.slice none 0 0)) (w.heap.size + 1) 26 (.int .i64 0)).cell
        have hff2 := (hr2.other (by omega) (.slice none 0 0) : Boxed (W.setCell ⟨w.heap.size, 0, none⟩ (.slice none 0 0)) (w.heap.size + 1) 26 (.int .i64 0)).frozen
        have HE := Aside0.mk (show codR xs = ([], 2) by
          unfold codR
          rw [if_neg hx0, if_neg (by rw [show badW (itemsL xs) = false from hno]; decide), if_pos (by omega)])
        have hzi : ((itemsF 0 xs).length : Int) = 0 := by omega
        clear q1 q2 q3 q4 hrow hBW hbw hK hgq hno hil hr1 hr2
        gi_wp2
        refine ⟨by simp, .inl ⟨_, _, rfl, run_takeDeferred Q1.out, ?_⟩⟩
        refine ⟨_, results_cells2 rfl _ _ _ ⟨w.heap.size, 0, none⟩ ⟨w.heap.size + 1, 0, none⟩ (.slice none 0 0) (.int .i64 2) rfl (bA _) Q2.out.cell rfl (bB _) Q3.out.cell, ?_⟩
        exact ⟨_, [], 2, rfl, HE.out, Kd.R_nil _ _ _ _ _, Q4.out⟩
      · obtain ⟨q1, q2, q3, q4, q5⟩ := closed2 (n₀ := w.heap.size) hr1 hr2 (by omega) (Nat.le_refl _) (by omega) (by omega) hK (.slice a0 (itemsF 0 xs).length c1) (.int .i64 0)
        have Q1 := Aside0.mk q1
        have Q2 := Aside0.mk q2
        have Q3 := Aside0.mk q3
        have Q4 := Aside0.mk (hBW.trans q4)
        have Q5 := Aside0.mk (q5 (by decide) (by decide) hrow)
        have hcc2 := (hr2.other (by omega) (.slice a0 (itemsF 0 xs).length c1) : Boxed (W.setCell ⟨w.heap.size, 0, none⟩ (.slice a0 (itemsF 0 xs).length c1)) (w.heap.size + 1) 26 (.int .i64 0)).cell
        have hff2 := (hr2.other (by omega) (.slice a0 (itemsF 0 xs).length c1) : Boxed (W.setCell ⟨w.heap.size, 0, none⟩ (.slice a0 (itemsF 0 xs).length c1)) (w.heap.size + 1) 26 (.int .i64 0)).frozen
        have HE := Aside0.mk (show codR xs = (codesL (itemsL xs), 0) by
          unfold codR
          rw [if_neg hx0, if_neg (by rw [show badW (itemsL xs) = false from hno]; decide), if_neg (by omega)])
        have hzi : ¬ ((itemsF 0 xs).length : Int) = 0 := by omega
        clear q1 q2 q3 q4 q5 hrow hBW hbw hK hgq hno hil hr1 hr2
        gi_wp2
        refine ⟨by simp, .inl ⟨_, _, rfl, run_takeDeferred Q1.out, ?_⟩⟩
        refine ⟨_, results_cells2 rfl _ _ _ ⟨w.heap.size, 0, none⟩ ⟨w.heap.size + 1, 0, none⟩ (.slice a0 (itemsF 0 xs).length c1) (.int .i64 0) rfl (bA _) Q2.out.cell rfl (bB _) Q3.out.cell, ?_⟩
        refine ⟨_, codesL (itemsL xs), 0, rfl, HE.out, row_strs ?_, Q4.out⟩
        rw [show (codesL (itemsL xs)).length = (itemsF 0 xs).length by unfold codesL itemsL; rw [List.length_map, List.length_map]]
        exact Q5.out
    case stop =>
      rintro D c pre g W hD hsp ⟨hgq, hr1, hr2, hBW, rfl, hyes⟩ hK
      have HK := Aside0.mk hK
      have HB := Aside0.mk (hBW.grown (grownBy_putObj' W D (.deferred none)) hBW.size (fun k e => by cases e; omega))
      have HX1 := Aside0.mk (hr1.kept (grownBy_putObj' W D (.deferred none)) (fun h => by cases h; omega))
      have HX2 := Aside0.mk (hr2.kept (grownBy_putObj' W D (.deferred none)) (fun h => by cases h; omega))
      have HE := Aside0.mk (show codR xs = ([], 2) by
        obtain ⟨r, hr⟩ := hsp
        have hb : badW (itemsL xs) = true := by
          unfold itemsL
          rw [← hr, List.map_append]
          unfold badW at *
          rw [List.any_append]
          unfold snds at hyes
          rw [hyes, Bool.true_or]
        unfold codR
        rw [if_neg hx0, if_pos hb])
      clear hK hsp hyes
      gi_wp2
      refine ⟨by simp, .inl ⟨_, _, rfl, run_takeDeferred HK.out, ?_⟩⟩
      refine ⟨_, results_cells2 rfl _ _ _ ⟨w.heap.size, 0, none⟩ ⟨w.heap.size + 1, 0, none⟩ (.slice none 0 0) (.int .i64 2) rfl (bA _) HX1.out.cell rfl (bB _) HX2.out.cell, ?_⟩
      exact ⟨_, [], 2, rfl, HE.out, Kd.R_nil _ _ _ _ _, HB.out⟩
end Go.Proofs.YtoanmbhenmlboaaDoorH
end
section
namespace Go.Proofs.YtoanmbhenmlboaaDoorH
open Go.RowKit Go.Proofs.YtoanmbhenmlboaaDoorW.PrintWords Go.Proofs.YtoanmbhenmlboaaDoorW.PrintLast Go.Proofs.YtoanmbhenmlboaaDoorW.PrintMore
def numL : Int → Bool → List UInt8 → Option (Int × Bool)
  | n, big, [] => some (n, big)
  | n, big, c :: l =>
    if (c.toNat : Int) < 48 ∨ 57 < (c.toNat : Int) then none
    else if big = true then numL n true l
    else if n > (4611686018427387903 - ((c.toNat : Int) - 48)) / 10 then numL n true l
    else numL (10 * n + ((c.toNat : Int) - 48)) false l
def numR (s : ByteArray) : Int × Int := match numL 0 false s.data.toList with
  | none => (0, 2)
  | some (n, big) => if s.size = 0 then (0, 2) else if big = true then (0, 3) else (n, 0)
theorem numR_none {s : ByteArray} (h : numL 0 false s.data.toList = none) : numR s = (0, 2) := by
  unfold numR
  rw [h]
theorem numR_some {s : ByteArray} {n : Int} {big : Bool} (h : numL 0 false s.data.toList = some (n, big)) : numR s = if s.size = 0 then (0, 2) else if big = true then (0, 3) else (n, 0) := by
  unfold numR
  rw [h]
theorem u64_id {m : Int} (h0 : 0 ≤ m) (h1 : m < 18446744073709551616) : IntKind.u64.wrap m = m := by
  unfold IntKind.wrap
  simp [IntKind.bits, IntKind.signed]
  omega
set_option maxHeartbeats 1600000 in
set_option maxRecDepth 100000 in
theorem number_calls (s : ByteArray) (w : World) (hs : s.size ≤ 140737488355328) :
    Calls Tryd.prog 67 #[.string s] w fun e w' => ∃ n er : Int, e = .returned (.tuple #[.int .u64 n, .int .i64 er]) ∧ numR s = (n, er) ∧ Below w.heap.size w w' := by
  have kb := fun W => print_bytes (P := Tryd.prog) 9 23 5 Tryd.underlying9 Tryd.underlying23 Tryd.underlying5 s W
  have HB := Aside0.mk (bytes_below (Below.refl w.heap.size w) (Nat.le_refl _) 5 s)
  have HC := Aside0.mk (show ∀ j : Nat, j < s.size → (Lib.bytesWorld w 5 s).cell? ⟨w.heap.size, j, none⟩ = some (.int .u8 (bt s j)) from fun j h => bytes_cell w 5 s j h (Below.refl _ _))
  go_enter Tryd.func67, Tryd.ntmps67
  go_wp2
  clear kb
  go_loopw [4, 5, 12] (fun v4 v5 v12 wr => ∃ (k : Nat) (n : Int) (big : Bool), k ≤ s.size ∧ v12 = .int .i64 k ∧ v4 = .int .u64 n ∧ v5 = .bool big ∧ 0 ≤ n ∧ n ≤ 4611686018427387903 ∧ Aside0 (numL 0 false s.data.toList = numL n big (s.data.toList.drop k)) ∧ Aside0 (wr = Lib.bytesWorld w 5 s)) (fun _ _ v12 _ => s.size - (intOf v12).toNat)
  case atStart => exact ⟨0, 0, false, Nat.zero_le _, rfl, rfl, rfl, by decide, by decide, ⟨rfl⟩, ⟨rfl⟩⟩
  case round =>
    obtain ⟨k, n, big, hk, rfl, rfl, rfl, hn0, hn1, hE, hw⟩ := hrel
    have hw := hw.out
    subst hw
    by_cases hlt : k < s.size
    · obtain ⟨c, hd, hb⟩ := drop_byte s k hlt
      have hcell := HC.out k hlt
      rw [hb] at hcell
      have HE := Aside0.mk hE.out
      rw [hd, numL] at HE
      have hx0 : 0 ≤ (c.toNat : Int) := by omega
      have hx1 : (c.toNat : Int) ≤ 255 := by have := c.toNat_lt; omega
      clear hb hE hd
      generalize (c.toNat : Int) = x at *
      by_cases h48 : x < 48
      · rw [if_pos (.inl h48)] at HE
        go_wp2
        go_ret2
        exact ⟨0, 2, rfl, numR_none HE.out, HB.out⟩
      · have h48' : 48 ≤ x := by omega
        by_cases h57 : 57 < x
        · rw [if_pos (.inr h57)] at HE
          go_wp2
          go_ret2
          exact ⟨0, 2, rfl, numR_none HE.out, HB.out⟩
        · rw [if_neg (by omega)] at HE
          have h57' : x ≤ 57 := by omega
          cases big with
          | true =>
            rw [if_pos rfl] at HE
            go_wp2
            go_roundw
            case rel => exact ⟨k + 1, n, true, hlt, by go_num, rfl, rfl, hn0, hn1, HE, by first | exact ⟨trivial⟩ | exact ⟨rfl⟩⟩
            case measure => simp [intOf]; omega
          | false =>
            rw [if_neg (by decide)] at HE
            by_cases hgt : (4611686018427387903 - (x - 48)) / 10 < n
            · rw [if_pos hgt] at HE
              have hgd : decide ((4611686018427387903 - (x - 48)) / 10 < n) = true := decide_eq_true hgt
              have hm : (x - 48) % 256 = x - 48 := by omega
              have hs : IntKind.u64.wrap (4611686018427387903 - (x - 48)) = 4611686018427387903 - (x - 48) := u64_id (by omega) (by omega)
              go_wp2
              go_roundw
              case rel => exact ⟨k + 1, n, true, hlt, by go_num, rfl, by first | rfl | rw [hgd], hn0, hn1, HE, by first | exact ⟨trivial⟩ | exact ⟨rfl⟩⟩
              case measure => simp [intOf]; omega
            · rw [if_neg hgt] at HE
              have hgd : decide ((4611686018427387903 - (x - 48)) / 10 < n) = false := decide_eq_false hgt
              have hng : n ≤ (4611686018427387903 - (x - 48)) / 10 := by omega
              have hb1 : 10 * n + (x - 48) ≤ 4611686018427387903 := by omega
              have hw1 : IntKind.u64.wrap (10 * n) = 10 * n := u64_id (by omega) (by omega)
              have hw2 : IntKind.u64.wrap (10 * n + (x - 48)) = 10 * n + (x - 48) := u64_id (by omega) (by omega)
              go_wp2
              go_roundw
              case rel => exact ⟨k + 1, 10 * n + (x - 48), false, hlt, by go_num, by first | rfl | rw [hw1, hw2] | rw [hw2], by first | rfl | rw [hgd], by omega, hb1, HE, by first | exact ⟨trivial⟩ | exact ⟨rfl⟩⟩
              case measure => simp [intOf]; omega
    · obtain rfl : k = s.size := by omega
      have HE := Aside0.mk (hE.out)
      rw [List.drop_eq_nil_of_le (by rw [← size_eq_length]; exact Nat.le_refl _), numL] at HE
      have HN := Aside0.mk (numR_some HE.out)
      clear hE HE
      by_cases h0 : s.size = 0
      · rw [if_pos h0] at HN
        obtain rfl : s = ⟨#[]⟩ := ByteArray.ext (Array.eq_empty_of_size_eq_zero h0)
        go_wp2
        go_ret2
        exact ⟨0, 2, rfl, HN.out, HB.out⟩
      · rw [if_neg h0] at HN
        have hne1 : (s.toList == ([] : List UInt8)) = false := by
          rw [ByteArray.toList_eq, beq_eq_false_iff_ne]
          intro e
          apply h0
          rw [size_eq_length, e]; rfl
        have hne2 : (s.toList = ([] : List UInt8)) = False := by simpa using hne1
        have hne3 : (s = (⟨#[]⟩ : ByteArray)) = False := by
          refine eq_false ?_
          rintro rfl
          exact h0 rfl
        cases big with
        | true =>
          rw [if_pos rfl] at HN
          go_wp2
          go_ret2
          exact ⟨0, 3, rfl, HN.out, HB.out⟩
        | false =>
          rw [if_neg (by decide)] at HN
          go_wp2
          go_ret2
          exact ⟨n, 0, rfl, HN.out, HB.out⟩
end Go.Proofs.YtoanmbhenmlboaaDoorH
end
section
namespace Go.Proofs.YtoanmbhenmlboaaDoorH
open Go.RowKit Go.Proofs.YtoanmbhenmlboaaDoorW.PrintWords Go.Proofs.YtoanmbhenmlboaaDoorW.PrintLast Go.Proofs.YtoanmbhenmlboaaDoorW.PrintMore
def list_Items.f (l0 : List ByteArray) : Option (List ByteArray) := if sumS l0 ≤ 1000000 then some (itemsL l0) else none
def list_Has.f (a0 : ByteArray) (l1 : List ByteArray) : Option Bool := if a0.size ≤ 1000000 ∧ sumS l1 ≤ 1000000 then some (hasB (itemsL l1) a0) else none
def list_Codings.f (l0 : List ByteArray) : Option ((List ByteArray) × Int) := if sumS l0 ≤ 1000000 then some (codR l0) else none
theorem list_Codings.calls (A0 : Option Addr) (c0 : Nat) (l0 : List ByteArray) (r1 : List ByteArray) (r2 : Int) (w : World) (hr0 : Kd.C Kd.string w A0 l0.length l0) (hc0 : l0.length ≤ c0) (hG : TabOk w) (h : list_Codings.f l0 = some (r1, r2)) :
    Calls Tryd.prog 53 #[.slice A0 l0.length c0] w fun e w' => ∃ v0_ : Value, e = .returned (.tuple #[v0_, .int .i64 r2]) ∧ Kd.R Kd.string 9 w' w.heap.size (fun _ => True) v0_ r1 ∧ Below w.heap.size w w' := by
  unfold list_Codings.f at h
  split at h
  · rename_i hs
    injection h with h
    refine (callsIn_wide.1 (Codings_in 7 (Nat.le_refl _) A0 c0 l0 hs hc0 w hG hr0)).mono ?_
    rintro e w' ⟨v, l, er, rfl, hr, hR, hb⟩
    rw [h] at hr
    cases hr
    exact ⟨v, rfl, hR, hb⟩
  · cases h
def list_Number.f (a0 : ByteArray) : Option (Int × Int) := if a0.size ≤ 140737488355328 then some (numR a0) else none
end Go.Proofs.YtoanmbhenmlboaaDoorH
end
section
namespace Go.Proofs.YtoanmbhenmlboaaDoorH
open Go.RowKit Go.Proofs.YtoanmbhenmlboaaDoorW.PrintWords Go.Proofs.YtoanmbhenmlboaaDoorW.PrintLast Go.Proofs.YtoanmbhenmlboaaDoorW.PrintMore
theorem at_u64 {w : World} {A : Option Addr} {n : Nat} {xs : List Int} (h : Kd.C (Kd.int .u64) w A n xs) (k : Nat) (hk : k < n) : ∃ ad, A = some ad ∧ w.cell? (ad.add k) = some (.int .u64 (xs.getD k 0)) := by
  obtain ⟨ad, c, e, _, hK, hc0⟩ := Kd.C_get h 0 (k : Int) (by omega) (by omega)
  have hc : ∀ j u, c[j]? = some u → w.cell? (ad.add ((k : Int).toNat * 1 + j)) = some u := hc0
  rw [Int.toNat_natCast] at hK hc
  have hK : c = [.int .u64 (xs.getD k 0)] := hK
  subst hK
  refine ⟨ad, e, ?_⟩
  have := hc 0 _ rfl
  rwa [Nat.mul_one, Nat.add_zero] at this
def minI (l : List Int) : Int := (l.drop 1).foldl min (l.getD 0 0)
def maxI (l : List Int) : Int := (l.drop 1).foldl max (l.getD 0 0)
def minTo (l : List Int) (k : Nat) : Int := ((l.take k).drop 1).foldl min (l.getD 0 0)
def maxTo (l : List Int) (k : Nat) : Int := ((l.take k).drop 1).foldl max (l.getD 0 0)
theorem drop_take_step (l : List Int) (k : Nat) (h1 : 1 ≤ k) (h : k < l.length) : (l.take (k + 1)).drop 1 = (l.take k).drop 1 ++ [l.getD k 0] := by
  rw [take_one l 0 k h, List.drop_append_of_le_length (by rw [List.length_take]; omega)]
theorem minTo_step (l : List Int) (k : Nat) (h1 : 1 ≤ k) (h : k < l.length) : minTo l (k + 1) = min (minTo l k) (l.getD k 0) := by
  unfold minTo
  rw [drop_take_step l k h1 h, List.foldl_append]
  rfl
theorem maxTo_step (l : List Int) (k : Nat) (h1 : 1 ≤ k) (h : k < l.length) : maxTo l (k + 1) = max (maxTo l k) (l.getD k 0) := by
  unfold maxTo
  rw [drop_take_step l k h1 h, List.foldl_append]
  rfl
set_option maxHeartbeats 800000 in
set_option maxRecDepth 100000 in
theorem min_calls (A0 : Option Addr) (c0 : Nat) (l : List Int) (w : World) (hr : Kd.C (Kd.int .u64) w A0 l.length l) (hn : 0 < l.length) (hl : l.length < 8796093022208) :
    Calls Tryd.prog 69 #[.slice A0 l.length c0] w fun e w' => e = .returned (.int .u64 (minI l)) ∧ w' = w := by
  obtain ⟨ad, e, hx0⟩ := at_u64 hr 0 hn
  subst e
  rw [show ad.add 0 = ad from rfl] at hx0
  have HR := Aside0.mk hr
  have hn1 : ¬ (l.length : Int) < 1 := by omega
  clear hr
  go_enter Tryd.func69, Tryd.ntmps69
  go_wp2
  go_loop [3, 4] (fun v3 v4 => ∃ k : Nat, 1 ≤ k ∧ k ≤ l.length ∧ v4 = .int .i64 k ∧ v3 = .int .u64 (minTo l k)) (fun _ v4 => l.length - (intOf v4).toNat)
  case atStart => exact ⟨1, Nat.le_refl _, hn, rfl, congrArg (Value.int IntKind.u64) (by unfold minTo; cases l with | nil => exact absurd hn (Nat.lt_irrefl _) | cons a l => rfl)⟩
  case round =>
    obtain ⟨k, h1, hk, rfl, rfl⟩ := hrel
    by_cases hlt : k < l.length
    · obtain ⟨ad', e, hxk⟩ := at_u64 HR.out k hlt
      cases e
      have HS := Aside0.mk (minTo_step l k h1 hlt)
      generalize l.getD k 0 = y at *
      generalize hmk : minTo l k = m at *
      go_wp2
      go_round
      case rel => exact ⟨k + 1, by omega, hlt, by go_num, by rw [HS.out]⟩
      case measure => simp [intOf]; omega
    · obtain rfl : k = l.length := by omega
      have HM := Aside0.mk (show minTo l l.length = minI l by unfold minTo minI; rw [List.take_length])
      go_wp2
      go_ret
      exact ⟨by first | rfl | (simp; done) | (rw [HM.out]; first | rfl | simp), rfl⟩
set_option maxHeartbeats 800000 in
set_option maxRecDepth 100000 in
theorem max_calls (A0 : Option Addr) (c0 : Nat) (l : List Int) (w : World) (hr : Kd.C (Kd.int .u64) w A0 l.length l) (hn : 0 < l.length) (hl : l.length < 8796093022208) :
    Calls Tryd.prog 70 #[.slice A0 l.length c0] w fun e w' => e = .returned (.int .u64 (maxI l)) ∧ w' = w := by
  obtain ⟨ad, e, hx0⟩ := at_u64 hr 0 hn
  subst e
  rw [show ad.add 0 = ad from rfl] at hx0
  have HR := Aside0.mk hr
  have hn1 : ¬ (l.length : Int) < 1 := by omega
  clear hr
  go_enter Tryd.func70, Tryd.ntmps70
  go_wp2
  go_loop [3, 4] (fun v3 v4 => ∃ k : Nat, 1 ≤ k ∧ k ≤ l.length ∧ v4 = .int .i64 k ∧ v3 = .int .u64 (maxTo l k)) (fun _ v4 => l.length - (intOf v4).toNat)
  case atStart => exact ⟨1, Nat.le_refl _, hn, rfl, congrArg (Value.int IntKind.u64) (by unfold maxTo; cases l with | nil => exact absurd hn (Nat.lt_irrefl _) | cons a l => rfl)⟩
  case round =>
    obtain ⟨k, h1, hk, rfl, rfl⟩ := hrel
    by_cases hlt : k < l.length
    · obtain ⟨ad', e, hxk⟩ := at_u64 HR.out k hlt
      cases e
      have HS := Aside0.mk (maxTo_step l k h1 hlt)
      generalize l.getD k 0 = y at *
      generalize hmk : maxTo l k = m at *
      go_wp2
      go_round
      case rel => exact ⟨k + 1, by omega, hlt, by go_num, by rw [HS.out]⟩
      case measure => simp [intOf]; omega
    · obtain rfl : k = l.length := by omega
      have HM := Aside0.mk (show maxTo l l.length = maxI l by unfold maxTo maxI; rw [List.take_length])
      go_wp2
      go_ret
      exact ⟨by first | rfl | (simp; done) | (rw [HM.out]; first | rfl | simp), rfl⟩
end Go.Proofs.YtoanmbhenmlboaaDoorH
end
