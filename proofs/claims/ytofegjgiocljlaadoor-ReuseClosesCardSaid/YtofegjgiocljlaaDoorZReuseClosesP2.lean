import Derived.Test.YtofegjgiocljlaaDoorZReuseClosesP1
import Derived.Test.YtofegjgiocljlaaDoorZReuseClosesP0
import Derived.Test.YtofegjgiocljlaaDoorProg
import Derived.SizedLaws
import Derived.ChangeSlices
import Derived.Below
import Derived.Outline
import Derived.Shelf.Vars
import Derived.OwnWalkIn
import Derived.Laws.EntriesVeiled
import Derived.Shelf.Strings.Trim
import Derived.Shelf.Small.Utf8
import Derived.Shelf.Small.Strs
import Derived.Shelf.Strings.Search1
import Derived.Shelf.Strings.Search2
import Derived.Shelf.Strings.Search3
import Derived.Shelf.Strings.Cut
import Derived.Shelf.LaysM
import Derived.Shelf.Strings.Shaped
import Derived.Shelf.Strings.Runes
import Derived.Shelf.Strings.AsciiSet
import Derived.Shelf.Unicode.DecodeSlow
import Derived.Shelf.Slices.Turned
import Derived.RangeFuncNested
import Derived.RangeFuncBound
import Derived.RangeFuncCalls
import Derived.RangeFuncLeaves
import Derived.Shelf.RegionOpen
import Derived.WalkKit
import Derived.TacticsInMore
import Derived.LoopNIn
import Derived.LoopIn
import Derived.Laws.Tables
import Derived.Deep.WholeRow
import Derived.Lib.Bytealg
import Derived.Shelf.Strings.SlTrimAscii
import Derived.Lib.IndexBytes
import Derived.RangeFuncKeeps
import Derived.ControlIn
import Derived.Scope
import Derived.WalkMore
section
namespace Go.Proofs.YtofegjgiocljlaaDoorH
open Go.RowKit Go.Proofs.YtofegjgiocljlaaDoorW.PrintWords Go.Proofs.YtofegjgiocljlaaDoorW.PrintLast Go.Proofs.YtofegjgiocljlaaDoorW.PrintMore
def MxOk (w : World) : Prop := ∃ m : Int, w.cell? ⟨1, 0, none⟩ = some (.int .i64 m)
theorem MxOk.below {w w1 : World} (h : MxOk w) (hb : Below w.heap.size w w1) : MxOk w1 := by
  obtain ⟨m, hm⟩ := h
  exact ⟨m, pw_cell_below hb hm⟩
theorem MxOk.of_shaped {w : World} (h : w.ShapedOpen Tryd.prog) : MxOk w := by
  exact Go.Proofs.cell_of_shapedOpen_int (zero := #[.int .i64 0]) (t := 3) h (of_decide_eq_true (by kernel_rfl)) (by kernel_rfl) rfl (by kernel_rfl) (by kernel_rfl) Tryd.underlying3
structure TabOk (w : World) : Prop where
  c0 : w.cell? ⟨0, 0, none⟩ = some (.int .u8 48)
  c1 : w.cell? ⟨0, 1, none⟩ = some (.int .u8 57)
  c2 : w.cell? ⟨0, 2, none⟩ = some (.int .u8 65)
  c3 : w.cell? ⟨0, 3, none⟩ = some (.int .u8 90)
  c4 : w.cell? ⟨0, 4, none⟩ = some (.int .u8 97)
  c5 : w.cell? ⟨0, 5, none⟩ = some (.int .u8 122)
  mx : MxOk w
theorem TabOk.below {w w1 : World} (h : TabOk w) (hb : Below w.heap.size w w1) : TabOk w1 :=
  ⟨pw_cell_below hb h.c0, pw_cell_below hb h.c1, pw_cell_below hb h.c2, pw_cell_below hb h.c3, pw_cell_below hb h.c4, pw_cell_below hb h.c5, h.mx.below hb⟩
theorem TabOk.drawn {w w1 : World} (h : TabOk w) (hb : Drawn0 w w1) : TabOk w1 := h.below hb.below
theorem TabOk.drewN {w : World} (h : TabOk w) (n : Nat) : TabOk (w.drewN n) := h.drawn ⟨⟨n, rfl⟩⟩
theorem TabOk.lt {w : World} (h : TabOk w) : 0 < w.heap.size := World.block_lt_of_cell? w _ h.c0
end Go.Proofs.YtofegjgiocljlaaDoorH
end
section
namespace Go.Proofs.YtofegjgiocljlaaDoorH
open Go Go.RowKit Go.Proofs.YtofegjgiocljlaaDoorW.PrintWords Go.Proofs.YtofegjgiocljlaaDoorW.PrintLast Go.Proofs.YtofegjgiocljlaaDoorW.PrintMore
theorem any_append {F : Fence} {n : Nat} {P : Program} {ops : Array Oper} {o : Oper} {a : Act} {Q : Exit → Act → World → Prop} {K : Act → World → Prop} {W : World} (base : Nat) (hw : Region.wanted o (yielded ops a.tmps) = true) (s x : Operand) (t e : TypeId) (z : Value) (size bytes : Nat)
    (ho : o.op = .call { callee := .builtin .append, args := #[s, x], argTypes := #[t, t] })
    (ht : P.underlying t = some (.slice e)) (hinfo : (P.info? e).map (fun i => (i.zero, i.size, i.bytes)) = some (some z, size, bytes)) (hz : z.cells.size = size) (hs0 : 0 < size) (hb0 : 0 < bytes)
    (v : Value) (k : Nat) (xs ys : List Value) (hs : a.eval s = v) (hx : a.eval x = .slice (some ⟨W.heap.size, 0, none⟩) 1 1) (hys : ys.length = size) (h1 : ∀ u ∈ ys, u.oneCell' = true)
    (HO : W.ownsRow base e size v k xs) (hbase : base ≤ W.heap.size) (hl : (k + 1) * bytes ≤ 140737488355328)
    (h : ∀ v1 w1, w1.ownsRow base e size v1 (k + 1) (xs ++ ys) → W.grownBy w1 v.ownBlock → (v1.ownBlock = v.ownBlock ∨ ∃ b, v1.ownBlock = some b ∧ W.heap.size ≤ b) → K (a.put o.dst v1) w1) :
    if Region.wanted o (yielded ops a.tmps) = true then Oper.wpIn F n P o a (W.alloc (.cells ys.toArray e)) K Q else (∀ f, o.about P (W.alloc (.cells ys.toArray e)) a.eval = some f → F.fn f) ∧ K (a.put o.dst undef) (W.alloc (.cells ys.toArray e)) := by
  obtain ⟨i0, hi, hzz⟩ := Option.map_eq_some_iff.1 hinfo
  simp only [Prod.mk.injEq] at hzz
  obtain ⟨hz0, hz1, hz2⟩ := hzz
  have hlen : k + 1 ≤ 140737488355328 := Nat.le_trans (Nat.le_mul_of_pos_right _ hb0) hl
  rw [if_pos hw]
  obtain ⟨v1, w1, hr, hown, hg, _, hat⟩ := run_append_own_at (P := P) (W.alloc (.cells ys.toArray e)) base t o.type e i0 z size bytes ht hi hz0 hz1 hz2 hz hs0 v k xs (HO.alloc _) ⟨W.heap.size, 0, none⟩ 1 1 ys (by rw [hys]; simp)
    (by simpa using World.news_of_block (cs := ys.toArray) (t := e) (fr := (0, 0)) (heap_alloc_new W (.cells ys.toArray e))) h1 (by simp only [maxLen]; omega) hl (by simp; omega)
  unfold Oper.wpIn
  refine ⟨?_, ?_⟩
  · simp [Oper.about, ho, resolve, Target.leads, Sem.run_pure]
  · rw [Oper.semAt_plain F _ _ (by rw [ho]; intro c hc'; cases hc')]
    simp [execOp, ho, resolve, invoke, builtin, hs, hx, hr, Result.andThen]
    refine h v1 w1 hown (World.grownBy.trans (World.grownBy_alloc W _ _) hg) ?_
    rcases hat with hat | hat
    · exact .inl hat
    · exact .inr ⟨_, hat, by simp⟩
theorem row_of_owns {α : Type} (d : Kd α) (enc : α → List Value) {e : Nat} {w : World} {base : Nat} {v : Value} {xs : List α} (hl : ∀ x, (enc x).length = d.sz) (hM : ∀ ok x, d.M w base ok x (enc x))
    (h : w.ownsRow base e d.sz v xs.length (xs.flatMap enc)) : d.R e w base (fun _ => True) v xs := by
  refine ⟨fun _ _ => trivial, xs.flatMap enc, h, ?_⟩
  clear h
  have key : ∀ (l r : List α) (inner : List Value), Reps (d.M w base (fun k => True ∧ some k ≠ v.ownBlock)) d.sz l inner → Reps (d.M w base (fun k => True ∧ some k ≠ v.ownBlock)) d.sz (l ++ r) (inner ++ r.flatMap enc) := by
    intro l r
    induction r generalizing l with
    | nil => intro inner h; simpa using h
    | cons x r ih =>
      intro inner h
      have := ih (l ++ [x]) (inner ++ enc x) (h.snoc (hM _ x) (hl x))
      simpa using this
  have := key [] xs [] (Reps.none _ _)
  simpa using this
theorem flatMap_length_two {α : Type} (enc : α → List Value) (n : Nat) (h : ∀ x, (enc x).length = n) : ∀ l : List α, (l.flatMap enc).length = l.length * n
  | [] => by simp
  | x :: l => by rw [List.flatMap_cons, List.length_append, h x, flatMap_length_two enc n h l, List.length_cons, Nat.succ_mul]; omega
end Go.Proofs.YtofegjgiocljlaaDoorH
end
section
namespace Go.Proofs.YtofegjgiocljlaaDoorH
open Go.RowKit Go.Proofs.YtofegjgiocljlaaDoorW.PrintWords Go.Proofs.YtofegjgiocljlaaDoorW.PrintLast Go.Proofs.YtofegjgiocljlaaDoorW.PrintMore
theorem TabOk.lies {w A C : World} {K : Nat → Prop} (hw : TabOk w) (hA : Lies (fun k => k < w.heap.size) w A) (hK : ∀ k, k < w.heap.size → K k) (h : Lies K A C) : TabOk C := by
  have hc : ∀ {p : Addr} {v : Value}, w.cell? p = some v → C.cell? p = some v := fun {p v} hp =>
    h.cell (hK p.block (World.block_lt_of_cell? w p hp)) (hA.cell (World.block_lt_of_cell? w p hp) hp)
  refine ⟨hc hw.c0, hc hw.c1, hc hw.c2, hc hw.c3, hc hw.c4, hc hw.c5, ?_⟩
  obtain ⟨m, hm⟩ := hw.mx
  exact ⟨m, hc hm⟩
end Go.Proofs.YtofegjgiocljlaaDoorH
end
section
namespace Go.Proofs
open Go.Shelf
def Tryd.lays160_ren : Go.Shelf.Ren := ⟨fun | 160 => 77 | 232 => 88 | 231 => 87 | 227 => 89 | 234 => 91 | 233 => 90 | 236 => 93 | 235 => 92 | 228 => 97 | 271 => 99 | 151 => 98 | 197 => 85 | 120 => 104 | 152 => 103 | 260 => 96 | 137 => 71 | 119 => 106 | 224 => 101 | 225 => 100 | 217 => 79 | 266 => 95 | n => n, fun | 9 => 9 | 4 => 4 | 3 => 3 | 5 => 5 | 117 => 110 | 116 => 109 | 0 => 0 | 124 => 113 | 21 => 21 | 105 => 104 | 46 => 116 | 119 => 117 | 139 => 120 | 138 => 119 | n => n, fun | 3 => 2 | 4 => 3 | n => n⟩
theorem Tryd.lays160 : Go.Proofs.Lays.n160 Tryd.prog Tryd.lays160_ren := {
  mixed := by kernel_rfl
  f119 := Tryd.func106.trans (congrArg some (by kernel_rfl))
  f120 := Tryd.func104.trans (congrArg some (by kernel_rfl))
  f137 := Tryd.func71.trans (congrArg some (by kernel_rfl))
  f151 := Tryd.func98.trans (congrArg some (by kernel_rfl))
  f152 := Tryd.func103.trans (congrArg some (by kernel_rfl))
  f160 := Tryd.func77.trans (congrArg some (by kernel_rfl))
  f197 := Tryd.func85.trans (congrArg some (by kernel_rfl))
  f217 := Tryd.func79.trans (congrArg some (by kernel_rfl))
  f224 := Tryd.func101.trans (congrArg some (by kernel_rfl))
  f225 := Tryd.func100.trans (congrArg some (by kernel_rfl))
  f227 := Tryd.func89.trans (congrArg some (by kernel_rfl))
  f228 := Tryd.func97.trans (congrArg some (by kernel_rfl))
  f231 := Tryd.func87.trans (congrArg some (by kernel_rfl))
  f232 := Tryd.func88.trans (congrArg some (by kernel_rfl))
  f233 := Tryd.func90.trans (congrArg some (by kernel_rfl))
  f234 := Tryd.func91.trans (congrArg some (by kernel_rfl))
  f235 := Tryd.func92.trans (congrArg some (by kernel_rfl))
  f236 := Tryd.func93.trans (congrArg some (by kernel_rfl))
  f260 := Tryd.func96.trans (congrArg some (by kernel_rfl))
  f266 := Tryd.func95.trans (congrArg some (by kernel_rfl))
  f271 := Tryd.func99.trans (congrArg some (by kernel_rfl))
  t0 := Tryd.underlying0
  a0 := Tryd.isAgg0
  z0 := Tryd.sizeOf0
  v0 := Tryd.zeroValue0
  t3 := Tryd.underlying3
  a3 := Tryd.isAgg3
  z3 := Tryd.sizeOf3
  v3 := Tryd.zeroValue3
  t4 := Tryd.underlying4
  a4 := Tryd.isAgg4
  z4 := Tryd.sizeOf4
  v4 := Tryd.zeroValue4
  t5 := Tryd.underlying5
  a5 := Tryd.isAgg5
  z5 := Tryd.sizeOf5
  v5 := Tryd.zeroValue5
  t9 := Tryd.underlying9
  a9 := Tryd.isAgg9
  z9 := Tryd.sizeOf9
  v9 := Tryd.zeroValue9
  t21 := Tryd.underlying21
  a21 := Tryd.isAgg21
  z21 := Tryd.sizeOf21
  v21 := Tryd.zeroValue21
  t46 := Tryd.underlying116
  a46 := Tryd.isAgg116
  z46 := Tryd.sizeOf116
  v46 := Tryd.zeroValue116
  t105 := Tryd.underlying104
  a105 := Tryd.isAgg104
  z105 := Tryd.sizeOf104
  v105 := Tryd.zeroValue104
  t116 := Tryd.underlying109
  a116 := Tryd.isAgg109
  z116 := Tryd.sizeOf109
  t117 := Tryd.underlying110
  a117 := Tryd.isAgg110
  z117 := Tryd.sizeOf110
  v117 := Tryd.zeroValue110
  t119 := Tryd.underlying117
  a119 := Tryd.isAgg117
  z119 := Tryd.sizeOf117
  t124 := Tryd.underlying113
  a124 := Tryd.isAgg113
  z124 := Tryd.sizeOf113
  v124 := Tryd.zeroValue113
  t138 := Tryd.underlying119
  a138 := Tryd.isAgg119
  z138 := Tryd.sizeOf119
  v138 := Tryd.zeroValue119
  t139 := Tryd.underlying120
  a139 := Tryd.isAgg120
  z139 := Tryd.sizeOf120
  v139 := Tryd.zeroValue120
  g3 := by kernel_rfl
  g4 := by kernel_rfl }
def Tryd.lays143_ren : Go.Shelf.Ren := ⟨fun | 143 => 86 | 219 => 94 | 217 => 79 | 225 => 100 | 224 => 101 | 267 => 102 | 266 => 95 | 314 => 105 | n => n, fun | 9 => 9 | 3 => 3 | 4 => 4 | 5 => 5 | 46 => 116 | 146 => 123 | 51 => 122 | n => n, fun | 1 => 1 | n => n⟩
theorem Tryd.lays143 : Go.Proofs.Lays.n143 Tryd.prog Tryd.lays143_ren := {
  mixed := by kernel_rfl
  f143 := Tryd.func86.trans (congrArg some (by kernel_rfl))
  f217 := Tryd.func79.trans (congrArg some (by kernel_rfl))
  f219 := Tryd.func94.trans (congrArg some (by kernel_rfl))
  f224 := Tryd.func101.trans (congrArg some (by kernel_rfl))
  f225 := Tryd.func100.trans (congrArg some (by kernel_rfl))
  f266 := Tryd.func95.trans (congrArg some (by kernel_rfl))
  f267 := Tryd.func102.trans (congrArg some (by kernel_rfl))
  f314 := Tryd.func105.trans (congrArg some (by kernel_rfl))
  t3 := Tryd.underlying3
  a3 := Tryd.isAgg3
  z3 := Tryd.sizeOf3
  v3 := Tryd.zeroValue3
  t4 := Tryd.underlying4
  a4 := Tryd.isAgg4
  z4 := Tryd.sizeOf4
  v4 := Tryd.zeroValue4
  t5 := Tryd.underlying5
  a5 := Tryd.isAgg5
  z5 := Tryd.sizeOf5
  v5 := Tryd.zeroValue5
  t9 := Tryd.underlying9
  a9 := Tryd.isAgg9
  z9 := Tryd.sizeOf9
  v9 := Tryd.zeroValue9
  t46 := Tryd.underlying116
  a46 := Tryd.isAgg116
  z46 := Tryd.sizeOf116
  v46 := Tryd.zeroValue116
  t51 := Tryd.underlying122
  a51 := Tryd.isAgg122
  z51 := Tryd.sizeOf122
  v51 := Tryd.zeroValue122
  t146 := Tryd.underlying123
  a146 := Tryd.isAgg123
  z146 := Tryd.sizeOf123
  v146 := Tryd.zeroValue123
  g1 := by kernel_rfl }
open Go.RowKit Go.Lib in
theorem Tryd.strings_Index (s sub : ByteArray) (m : Int) (w : World) (hs : s.size < 4294967281) (hm : w.cell? ⟨1, 0, none⟩ = some (.int .i64 m)) :
    Calls Tryd.prog 86 #[.string s, .string sub] w fun e w' => e = .returned (.int .i64 (Lib.index s.data.toList sub.data.toList)) ∧ w' = w := Any.strings_Index Tryd.lays143 s sub m w hs hm
def Tryd.lays145_ren : Go.Shelf.Ren := ⟨fun | 145 => 68 | 220 => 78 | 219 => 94 | 217 => 79 | 225 => 100 | 224 => 101 | 267 => 102 | 266 => 95 | 314 => 105 | n => n, fun | 9 => 9 | 4 => 4 | 59 => 92 | 3 => 3 | 5 => 5 | 46 => 116 | 146 => 123 | 51 => 122 | n => n, fun | 1 => 1 | n => n⟩
theorem Tryd.lays145 : Go.Proofs.Lays.n145 Tryd.prog Tryd.lays145_ren := {
  mixed := by kernel_rfl
  f145 := Tryd.func68.trans (congrArg some (by kernel_rfl))
  f217 := Tryd.func79.trans (congrArg some (by kernel_rfl))
  f219 := Tryd.func94.trans (congrArg some (by kernel_rfl))
  f220 := Tryd.func78.trans (congrArg some (by kernel_rfl))
  f224 := Tryd.func101.trans (congrArg some (by kernel_rfl))
  f225 := Tryd.func100.trans (congrArg some (by kernel_rfl))
  f266 := Tryd.func95.trans (congrArg some (by kernel_rfl))
  f267 := Tryd.func102.trans (congrArg some (by kernel_rfl))
  f314 := Tryd.func105.trans (congrArg some (by kernel_rfl))
  t3 := Tryd.underlying3
  a3 := Tryd.isAgg3
  z3 := Tryd.sizeOf3
  v3 := Tryd.zeroValue3
  t4 := Tryd.underlying4
  a4 := Tryd.isAgg4
  z4 := Tryd.sizeOf4
  v4 := Tryd.zeroValue4
  t5 := Tryd.underlying5
  a5 := Tryd.isAgg5
  z5 := Tryd.sizeOf5
  v5 := Tryd.zeroValue5
  t9 := Tryd.underlying9
  a9 := Tryd.isAgg9
  z9 := Tryd.sizeOf9
  v9 := Tryd.zeroValue9
  t46 := Tryd.underlying116
  a46 := Tryd.isAgg116
  z46 := Tryd.sizeOf116
  v46 := Tryd.zeroValue116
  t51 := Tryd.underlying122
  a51 := Tryd.isAgg122
  z51 := Tryd.sizeOf122
  v51 := Tryd.zeroValue122
  t59 := Tryd.underlying92
  a59 := Tryd.isAgg92
  z59 := Tryd.sizeOf92
  v59 := Tryd.zeroValue92
  t146 := Tryd.underlying123
  a146 := Tryd.isAgg123
  z146 := Tryd.sizeOf123
  v146 := Tryd.zeroValue123
  g1 := by kernel_rfl }
open Go.RowKit Go.Lib in
theorem Tryd.strings_Cut (s sep : ByteArray) (m : Int) (w : World) (hs : s.size < 4294967281) (hm : w.cell? ⟨1, 0, none⟩ = some (.int .i64 m)) :
    Calls Tryd.prog 68 #[.string s, .string sep] w fun e w' => e = .returned (.tuple #[.string ⟨(Lib.cut s.data.toList sep.data.toList).1.toArray⟩, .string ⟨(Lib.cut s.data.toList sep.data.toList).2.1.toArray⟩, .bool (Lib.cut s.data.toList sep.data.toList).2.2]) ∧ ∃ n, w' = w.drewN n := Any.strings_Cut Tryd.lays145 s sep m w hs hm
end Go.Proofs
end
section
namespace Go.Proofs.YtofegjgiocljlaaDoorH
open Go.RowKit Go.Proofs.YtofegjgiocljlaaDoorW.PrintWords Go.Proofs.YtofegjgiocljlaaDoorW.PrintLast Go.Proofs.YtofegjgiocljlaaDoorW.PrintMore
def strings_Cut.f (a0 a1 : ByteArray) : Option (ByteArray × ByteArray × Bool) := if a0.size < 4294967281 then some (⟨(Lib.cut a0.data.toList a1.data.toList).1.toArray⟩, ⟨(Lib.cut a0.data.toList a1.data.toList).2.1.toArray⟩, (Lib.cut a0.data.toList a1.data.toList).2.2) else none
theorem strings_Cut.calls (a0 a1 : ByteArray) (r1 r2 : ByteArray) (r3 : Bool) (w : World) (hG : TabOk w) (h : strings_Cut.f a0 a1 = some (r1, r2, r3)) :
    Calls Tryd.prog 68 #[.string a0, .string a1] w fun e w' => e = .returned (.tuple #[.string r1, .string r2, .bool r3]) ∧ Below w.heap.size w w' := by
  unfold strings_Cut.f at h
  split at h
  · rename_i hs
    injection h with h
    injection h with h1 h
    injection h with h2 h3
    subst h1 h2 h3
    obtain ⟨m, hm⟩ := hG.mx
    refine (Tryd.strings_Cut a0 a1 m w hs hm).mono ?_
    rintro e w' ⟨rfl, n, rfl⟩
    exact ⟨rfl, (show Drawn0 w (w.drewN n) from ⟨⟨n, rfl⟩⟩).below⟩
  · cases h
end Go.Proofs.YtofegjgiocljlaaDoorH
end
section
namespace Go.Proofs.YtofegjgiocljlaaDoorH
open Go.RowKit Go.Shelf Go.Proofs.YtofegjgiocljlaaDoorW.PrintWords Go.Proofs.YtofegjgiocljlaaDoorW.PrintLast Go.Proofs.YtofegjgiocljlaaDoorW.PrintMore
attribute [local go_sem] Oper.semAt_some
def qCells : Array Value := #[.string ⟨#[114, 101, 113, 117, 101, 115, 116]⟩, .func (.func 57) #[] #[], .bool true, .bool true, .string ⟨#[114, 101, 115, 112, 111, 110, 115, 101]⟩, .func (.func 58) #[] #[], .bool true, .bool true, .string ⟨#[111, 112, 101, 110, 45, 111, 117, 116]⟩, .func (.func 59) #[] #[], .bool true, .bool false, .string ⟨#[111, 112, 101, 110, 45, 105, 110]⟩, .func (.func 60) #[] #[], .bool false, .bool true, .string ⟨#[114, 101, 115, 116]⟩, .func (.func 61) #[] #[], .bool false, .bool true, .string ⟨#[99, 108, 111, 115, 101]⟩, .func (.func 62) #[] #[], .bool true, .bool true]
def zCells : Array Value := #[.string ⟨#[]⟩, .nilFunc, .bool false, .bool false, .string ⟨#[]⟩, .nilFunc, .bool false, .bool false, .string ⟨#[]⟩, .nilFunc, .bool false, .bool false, .string ⟨#[]⟩, .nilFunc, .bool false, .bool false, .string ⟨#[]⟩, .nilFunc, .bool false, .bool false, .string ⟨#[]⟩, .nilFunc, .bool false, .bool false]
theorem index0 (W : World) : (Instr.index 76 (.agg qCells) (.int .i64 0)).run Tryd.prog W = .ok (.agg #[.string ⟨#[114, 101, 113, 117, 101, 115, 116]⟩, .func (.func 57) #[] #[], .bool true, .bool true]) W := by kernel_rfl
theorem index1 (W : World) : (Instr.index 76 (.agg qCells) (.int .i64 1)).run Tryd.prog W = .ok (.agg #[.string ⟨#[114, 101, 115, 112, 111, 110, 115, 101]⟩, .func (.func 58) #[] #[], .bool true, .bool true]) W := by kernel_rfl
theorem index2 (W : World) : (Instr.index 76 (.agg qCells) (.int .i64 2)).run Tryd.prog W = .ok (.agg #[.string ⟨#[111, 112, 101, 110, 45, 111, 117, 116]⟩, .func (.func 59) #[] #[], .bool true, .bool false]) W := by kernel_rfl
theorem index3 (W : World) : (Instr.index 76 (.agg qCells) (.int .i64 3)).run Tryd.prog W = .ok (.agg #[.string ⟨#[111, 112, 101, 110, 45, 105, 110]⟩, .func (.func 60) #[] #[], .bool false, .bool true]) W := by kernel_rfl
theorem index4 (W : World) : (Instr.index 76 (.agg qCells) (.int .i64 4)).run Tryd.prog W = .ok (.agg #[.string ⟨#[114, 101, 115, 116]⟩, .func (.func 61) #[] #[], .bool false, .bool true]) W := by kernel_rfl
theorem index5 (W : World) : (Instr.index 76 (.agg qCells) (.int .i64 5)).run Tryd.prog W = .ok (.agg #[.string ⟨#[99, 108, 111, 115, 101]⟩, .func (.func 62) #[] #[], .bool true, .bool true]) W := by kernel_rfl
theorem zero_q : (Tryd.prog.info? 76).map (fun i => (i.zero, i.size)) = some (some (.agg zCells), 24) := by kernel_rfl
theorem wpList_buildE {P : Program} {ops : Array Oper} {rest : List Oper} {o : Oper} {a : Act} {w : World} {Q : Exit → Act → World → Prop} (hg : o.guard = none) (t : TypeId) (parts : Array (Nat × Operand)) (ho : o.op = .build t parts) (cells : Array Value)
    (h : P.built t (parts.map fun (i, x) => (i, a.eval x)).toList = some cells) (k : wpList P ops Q rest (a.put o.dst (.agg cells)) w) : wpList P ops Q (o :: rest) a w := by
  refine wpList_build hg t parts ho (by rw [h]; rfl) ?_
  rw [h]
  exact k
def qRow0 : Array Value := #[.string ⟨#[114, 101, 113, 117, 101, 115, 116]⟩, .func (.func 57) #[] #[], .bool true, .bool true]
def qRow1 : Array Value := #[.string ⟨#[114, 101, 115, 112, 111, 110, 115, 101]⟩, .func (.func 58) #[] #[], .bool true, .bool true]
def qRow2 : Array Value := #[.string ⟨#[111, 112, 101, 110, 45, 111, 117, 116]⟩, .func (.func 59) #[] #[], .bool true, .bool false]
def qRow3 : Array Value := #[.string ⟨#[111, 112, 101, 110, 45, 105, 110]⟩, .func (.func 60) #[] #[], .bool false, .bool true]
def qRow4 : Array Value := #[.string ⟨#[114, 101, 115, 116]⟩, .func (.func 61) #[] #[], .bool false, .bool true]
def qRow5 : Array Value := #[.string ⟨#[99, 108, 111, 115, 101]⟩, .func (.func 62) #[] #[], .bool true, .bool true]
set_option maxHeartbeats 1600000 in
set_option maxRecDepth 100000 in
theorem questions_calls (w : World) :
    Calls Tryd.prog 41 #[] w fun e w' => e = .returned (.agg qCells) ∧ Below w.heap.size w w' := by
  go_enter Tryd.func41, Tryd.ntmps41
  go_upto_region 1 with (fail)
  apply wp_region_lit
  refine wpList_buildE rfl 74 _ rfl qRow0 (by kernel_rfl) ?_
  refine wpList_buildE rfl 74 _ rfl qRow1 (by kernel_rfl) ?_
  refine wpList_buildE rfl 74 _ rfl qRow2 (by kernel_rfl) ?_
  refine wpList_buildE rfl 74 _ rfl qRow3 (by kernel_rfl) ?_
  refine wpList_buildE rfl 74 _ rfl qRow4 (by kernel_rfl) ?_
  refine wpList_buildE rfl 74 _ rfl qRow5 (by kernel_rfl) ?_
  refine wpList_buildE rfl 76 _ rfl qCells (by kernel_rfl) ?_
  refine wpList_store_row rfl 76 _ _ rfl w.heap.size qCells rfl rfl 76 _ (heap_alloc_last w _) (zero_of_info zero_q).2 rfl (by kernel_rfl) ?_
  rw [World.setRow_alloc_new]
  have HI := Aside0.mk (show (Tryd.prog.info? 76).map (·.size) = some qCells.size from (zero_of_info zero_q).2)
  generalize hqq : qCells = qC at *
  have HQQ := Aside0.mk hqq
  clear hqq
  generalize qRow0 = r0 at *
  generalize qRow1 = r1 at *
  generalize qRow2 = r2 at *
  generalize qRow3 = r3 at *
  generalize qRow4 = r4 at *
  generalize qRow5 = r5 at *
  go_wp2
  refine bodyPost_ret (results_cell_row rfl _ _ w.heap.size 76 qC (0, 0) _ rfl (heap_alloc_last w _) Tryd.underlying76 rfl HI.out) rfl ?_
  exact ⟨by rw [HQQ.out], below_alloc (Below.refl _ _) _⟩
end Go.Proofs.YtofegjgiocljlaaDoorH
end
section
namespace Go.Proofs.YtofegjgiocljlaaDoorH
open Go.RowKit Go.Shelf Go.Proofs.YtofegjgiocljlaaDoorW.PrintWords Go.Proofs.YtofegjgiocljlaaDoorW.PrintLast Go.Proofs.YtofegjgiocljlaaDoorW.PrintMore
attribute [local go_sem] Oper.semAt_some
def qRowOf : Nat → Array Value
  | 0 => #[.string ⟨#[114, 101, 113, 117, 101, 115, 116]⟩, .func (.func 57) #[] #[], .bool true, .bool true]
  | 1 => #[.string ⟨#[114, 101, 115, 112, 111, 110, 115, 101]⟩, .func (.func 58) #[] #[], .bool true, .bool true]
  | 2 => #[.string ⟨#[111, 112, 101, 110, 45, 111, 117, 116]⟩, .func (.func 59) #[] #[], .bool true, .bool false]
  | 3 => #[.string ⟨#[111, 112, 101, 110, 45, 105, 110]⟩, .func (.func 60) #[] #[], .bool false, .bool true]
  | 4 => #[.string ⟨#[114, 101, 115, 116]⟩, .func (.func 61) #[] #[], .bool false, .bool true]
  | _ => #[.string ⟨#[99, 108, 111, 115, 101]⟩, .func (.func 62) #[] #[], .bool true, .bool true]
def onesTo (st : Nat → Bool) (k : Nat) : List Nat := (List.range k).filter st
theorem onesTo_yes (st : Nat → Bool) (k : Nat) (h : st k = true) : onesTo st (k + 1) = onesTo st k ++ [k] := by
  unfold onesTo
  rw [List.range_succ, List.filter_append, List.filter_cons_of_pos h]
  rfl
theorem onesTo_no (st : Nat → Bool) (k : Nat) (h : st k = false) : onesTo st (k + 1) = onesTo st k := by
  unfold onesTo
  rw [List.range_succ, List.filter_append, List.filter_cons_of_neg (by simp [h])]
  simp
theorem onesTo_pre (st : Nat → Bool) (k d : Nat) : onesTo st k <+: onesTo st (k + d) := by
  induction d with
  | zero => exact List.prefix_refl _
  | succ d ih =>
    refine ih.trans ?_
    rw [← Nat.add_assoc]
    cases h : st (k + d) with
    | true => rw [onesTo_yes st _ h]; exact List.prefix_append _ _
    | false => rw [onesTo_no st _ h]; exact List.prefix_refl _
structure Hf where
  o : Int
  ik : Int
  iz : Int
  ok : Int
  oz : Int
  rest : Int
  A : Option Addr
  n : Nat
  c : Nat
def Hf.cells (h : Hf) : Array Value := #[.int .i64 h.o, .int .i64 h.ik, .int .u64 h.iz, .int .i64 h.ok, .int .u64 h.oz, .int .i64 h.rest, .slice h.A h.n h.c]
def HfAt (W : World) (b : Nat) (h : Hf) : Prop := W.heap[b]? = some (.cells h.cells 33 (0, 0))
theorem HfAt.all {W : World} {b : Nat} {h : Hf} (hb : HfAt W b h) : W.cell? ⟨b, 0, none⟩ = some (.int .i64 h.o) ∧ W.cell? ⟨b, 1, none⟩ = some (.int .i64 h.ik) ∧ W.cell? ⟨b, 2, none⟩ = some (.int .u64 h.iz) ∧ W.cell? ⟨b, 3, none⟩ = some (.int .i64 h.ok) ∧ W.cell? ⟨b, 4, none⟩ = some (.int .u64 h.oz) ∧ W.cell? ⟨b, 5, none⟩ = some (.int .i64 h.rest) ∧ W.cell? ⟨b, 6, none⟩ = some (.slice h.A h.n h.c) :=
  ⟨(blk_cell hb 0).trans rfl, (blk_cell hb 1).trans rfl, (blk_cell hb 2).trans rfl, (blk_cell hb 3).trans rfl, (blk_cell hb 4).trans rfl, (blk_cell hb 5).trans rfl, (blk_cell hb 6).trans rfl⟩
structure Stands (w : World) (q p : Hf) (st : Nat → Bool) : Prop where
  s0 : ∀ W : World, Lies (fun b => b < w.heap.size) w W → Calls Tryd.prog 57 #[.agg q.cells, .agg p.cells] W fun e W' => e = .returned (.bool (st 0)) ∧ Below W.heap.size W W'
  s1 : ∀ W : World, Lies (fun b => b < w.heap.size) w W → Calls Tryd.prog 58 #[.agg q.cells, .agg p.cells] W fun e W' => e = .returned (.bool (st 1)) ∧ Below W.heap.size W W'
  s2 : ∀ W : World, Lies (fun b => b < w.heap.size) w W → Calls Tryd.prog 59 #[.agg q.cells, .agg p.cells] W fun e W' => e = .returned (.bool (st 2)) ∧ Below W.heap.size W W'
  s3 : ∀ W : World, Lies (fun b => b < w.heap.size) w W → Calls Tryd.prog 60 #[.agg q.cells, .agg p.cells] W fun e W' => e = .returned (.bool (st 3)) ∧ Below W.heap.size W W'
  s4 : ∀ W : World, Lies (fun b => b < w.heap.size) w W → Calls Tryd.prog 61 #[.agg q.cells, .agg p.cells] W fun e W' => e = .returned (.bool (st 4)) ∧ Below W.heap.size W W'
  s5 : ∀ W : World, Lies (fun b => b < w.heap.size) w W → Calls Tryd.prog 62 #[.agg q.cells, .agg p.cells] W fun e W' => e = .returned (.bool (st 5)) ∧ Below W.heap.size W W'
def KzA (n a b : Nat) (k : Nat) : Prop := k < n ∨ k = a ∨ k = b
set_option maxRecDepth 100000 in
set_option maxHeartbeats 8000000 in
theorem against_own (n : Nat) (hn : 1 ≤ n) (Bq Bp : Nat) (q p : Hf) (st : Nat → Bool) (w : World) (hst : Stands w q p st) (W0 : World) (hw0 : Lies (fun k => k < w.heap.size) w W0)
    (hq0 : HfAt W0 Bq q) (hp0 : HfAt W0 Bp p) :
    SeqO Fence.wide n Tryd.prog 55 #[.pointer (some ⟨Bq, 0, none⟩), .pointer (some ⟨Bp, 0, none⟩)] (fun x : Nat => #[.agg (qRowOf x)]) (KzA w.heap.size Bq Bp) (fun _ => False) (fun ys => ys = onesTo st 6) (fun pre => pre <+: onesTo st 6) W0 := by
  intro l J Jx g0 W hW hJ hJx hg0 hY h0
  have hw1 : Lies (fun k => k < w.heap.size) w W := hw0.trans (Lies.below hW)
  have hqW : HfAt W Bq q := blk_below hq0 hW
  have hpW : HfAt W Bp p := blk_below hp0 hW
  have l1 := blk_lt hqW
  have l2 := blk_lt hpW
  have l4 := hw1.size
  have HQW := Aside0.mk hqW
  have HPW := Aside0.mk hpW
  clear hW hw0 hq0 hp0 hqW hpW
  have HQ := Aside0.mk questions_calls
  have HST := Aside0.mk hst
  have i0 := index0
  have i1 := index1
  have i2 := index2
  have i3 := index3
  have i4 := index4
  have i5 := index5
  have e0 := enters_of Tryd.func57 (by kernel_rfl) rfl
  have e1 := enters_of Tryd.func58 (by kernel_rfl) rfl
  have e2 := enters_of Tryd.func59 (by kernel_rfl) rfl
  have e3 := enters_of Tryd.func60 (by kernel_rfl) rfl
  have e4 := enters_of Tryd.func61 (by kernel_rfl) rfl
  have e5 := enters_of Tryd.func62 (by kernel_rfl) rfl
  refine callsIn_of_wp Tryd.func55 rfl trivial ?_ rfl
  simp only [Tryd.ntmps55, List.size_toArray, List.length_cons, List.length_nil, Nat.reduceAdd, Nat.reduceSub, Array.replicate_succ, Array.replicate_zero, List.push_toArray, List.append_toArray, List.nil_append, List.cons_append]
  gi_wp2
  refine ⟨trivial, ?_⟩
  refine (callsIn_wide.2 (HQ.out W)).mono ?_
  rintro e w1 ⟨rfl, b1⟩
  have J1 := Aside0.mk (hJ.step h0 (grown_below b1))
  have L1 := Aside0.mk (Lies.below (K := KzA w.heap.size Bq Bp) b1)
  clear b1 HQ hst
  generalize qCells = qC at *
  gi_wp2
  gi_loopw [7] (fun v7 wr => ∃ (k : Nat) (g : Option Nat), k ≤ 6 ∧ v7 = .int .i64 k ∧ Aside0 (J (onesTo st k) g wr) ∧ Aside0 (∀ q, g = some q → ¬ KzA w.heap.size Bq Bp q) ∧ Aside0 (Lies (KzA w.heap.size Bq Bp) W wr)) (fun v7 _ => 6 - (intOf v7).toNat)
  case atStart => exact ⟨0, g0, by decide, rfl, J1, ⟨fun q e => (hg0 q e).1⟩, L1⟩
  case round =>
    obtain ⟨k, g, hk, rfl, hJs, hgq, hnx⟩ := hrel
    have hsz := hnx.out.size
    have hq : HfAt wr Bq q := (hnx.out.same Bq (.inr (.inl rfl)) l1).trans HQW.out
    have hp : HfAt wr Bp p := (hnx.out.same Bp (.inr (.inr rfl)) l2).trans HPW.out
    have hlw := hw1.trans (hnx.out.imp (K' := fun k => k < w.heap.size) (fun k h => .inl h))
    have HLW := Aside0.mk hlw
    clear hlw
    have hk6 : k = 0 ∨ k = 1 ∨ k = 2 ∨ k = 3 ∨ k = 4 ∨ k = 5 ∨ k = 6 := by omega
    rcases hk6 with rfl | rfl | rfl | rfl | rfl | rfl | rfl
    · obtain ⟨q0, q1, q2, q3, q4, q5, q6⟩ := HfAt.all (show HfAt (wr.alloc (.cells #[.string ⟨#[114, 101, 113, 117, 101, 115, 116]⟩, .func (.func 57) #[] #[], .bool true, .bool true] 74)) Bq q from blk_alloc hq (.cells #[.string ⟨#[114, 101, 113, 117, 101, 115, 116]⟩, .func (.func 57) #[] #[], .bool true, .bool true] 74))
      obtain ⟨p0, p1, p2, p3, p4, p5, p6⟩ := HfAt.all (show HfAt (wr.alloc (.cells #[.string ⟨#[114, 101, 113, 117, 101, 115, 116]⟩, .func (.func 57) #[] #[], .bool true, .bool true] 74)) Bp p from blk_alloc hp (.cells #[.string ⟨#[114, 101, 113, 117, 101, 115, 116]⟩, .func (.func 57) #[] #[], .bool true, .bool true] 74))
      have HC := Aside0.mk (HST.out.s0 (wr.alloc (.cells #[.string ⟨#[114, 101, 113, 117, 101, 115, 116]⟩, .func (.func 57) #[] #[], .bool true, .bool true] 74)) (HLW.out.trans (Lies.below (below_alloc (Below.refl _ _) _))))
      gi_wp2
      refine ⟨trivial, ?_⟩
      refine (callsIn_wide.2 HC.out).mono ?_
      rintro e w4 ⟨rfl, b4⟩
      have JA := Aside0.mk (hJ.step (hJ.alloc (.cells #[.string ⟨#[114, 101, 113, 117, 101, 115, 116]⟩, .func (.func 57) #[] #[], .bool true, .bool true] 74) hJs.out) (grown_below b4))
      have LA := Aside0.mk (hnx.out.trans ((Lies.below (K := KzA w.heap.size Bq Bp) (below_alloc (Below.refl _ _) (.cells #[.string ⟨#[114, 101, 113, 117, 101, 115, 116]⟩, .func (.func 57) #[] #[], .bool true, .bool true] 74))).trans (Lies.below b4)))
      have y0 := pw_cell_below b4 (show (wr.alloc (.cells #[.string ⟨#[114, 101, 113, 117, 101, 115, 116]⟩, .func (.func 57) #[] #[], .bool true, .bool true] 74)).cell? ⟨wr.heap.size, 0, none⟩ = some (.string ⟨#[114, 101, 113, 117, 101, 115, 116]⟩) by simp)
      have y1 := pw_cell_below b4 (show (wr.alloc (.cells #[.string ⟨#[114, 101, 113, 117, 101, 115, 116]⟩, .func (.func 57) #[] #[], .bool true, .bool true] 74)).cell? ⟨wr.heap.size, 1, none⟩ = some (.func (.func 57) #[] #[]) by simp)
      have y2 := pw_cell_below b4 (show (wr.alloc (.cells #[.string ⟨#[114, 101, 113, 117, 101, 115, 116]⟩, .func (.func 57) #[] #[], .bool true, .bool true] 74)).cell? ⟨wr.heap.size, 2, none⟩ = some (.bool true) by simp)
      have y3 := pw_cell_below b4 (show (wr.alloc (.cells #[.string ⟨#[114, 101, 113, 117, 101, 115, 116]⟩, .func (.func 57) #[] #[], .bool true, .bool true] 74)).cell? ⟨wr.heap.size, 3, none⟩ = some (.bool true) by simp)
      have HZA := Aside0.mk (LA.out.size)
      clear b4 HC q0 q1 q2 q3 q4 q5 q6 p0 p1 p2 p3 p4 p5 p6
      obtain ⟨b, hb⟩ : ∃ b, st 0 = b := ⟨_, rfl⟩
      rw [hb]
      cases b with
      | true =>
        have HON := Aside0.mk (onesTo_yes st 0 hb)
        have HPP := Aside0.mk (show onesTo st 0 ++ [0] <+: onesTo st 6 by rw [← HON.out]; exact onesTo_pre st (0 + 1) 5)
        have hY' := hY (n - 1) (onesTo st 0) 0 g w4 JA.out HPP.out
        dsimp only [qRowOf] at hY'
        obtain ⟨fn, tmps, assign, body, hy, hR⟩ := hY'
        have HR := Aside0.mk hR
        clear hR hb
        gi_wp2
        refine HR.out.mono ?_
        rintro e W3 ⟨g', hsp, (⟨rfl, hJ3⟩ | ⟨rfl, hJx3⟩)⟩
        · have HJ3 := Aside0.mk (show J (onesTo st (0 + 1)) g' W3 by rw [HON.out]; exact hJ3)
          have HL3 := Aside0.mk (LA.out.trans (hsp.lies (K' := KzA w.heap.size Bq Bp) (fun q hq _ => ⟨.inr hq, fun e => hgq.out q e.symm hq⟩)))
          have HG3 := Aside0.mk (hsp.not (Kz := KzA w.heap.size Bq Bp) (fun q hq => by have := HZA.out; unfold KzA at hq; rcases hq with hq | hq | hq <;> omega) hgq.out)
          clear hsp hJ3 hy HR y0 y1 y2 y3
          gi_wp2
          go_roundw
          case rel => exact ⟨1, g', by decide, by first | rfl | go_num, HJ3, HG3, HL3⟩
          case measure => simp [intOf]
        · clear hy HR y0 y1 y2 y3
          gi_wp2
          refine bodyPost_ret (results_none rfl _ _ _) rfl ?_
          exact ⟨⟨_, rfl⟩, .inr ⟨_, g', HPP.out, hJx3⟩⟩
      | false =>
        have HJ3 := Aside0.mk (show J (onesTo st (0 + 1)) g w4 by rw [onesTo_no st 0 hb]; exact JA.out)
        clear hb y0 y1 y2 y3
        gi_wp2
        refine ⟨fun f h => (by cases h), ?_⟩
        gi_wp2
        go_roundw
        case rel => exact ⟨1, g, by decide, by first | rfl | go_num, HJ3, hgq, LA⟩
        case measure => simp [intOf]
    · obtain ⟨q0, q1, q2, q3, q4, q5, q6⟩ := HfAt.all (show HfAt (wr.alloc (.cells #[.string ⟨#[114, 101, 115, 112, 111, 110, 115, 101]⟩, .func (.func 58) #[] #[], .bool true, .bool true] 74)) Bq q from blk_alloc hq (.cells #[.string ⟨#[114, 101, 115, 112, 111, 110, 115, 101]⟩, .func (.func 58) #[] #[], .bool true, .bool true] 74))
      obtain ⟨p0, p1, p2, p3, p4, p5, p6⟩ := HfAt.all (show HfAt (wr.alloc (.cells #[.string ⟨#[114, 101, 115, 112, 111, 110, 115, 101]⟩, .func (.func 58) #[] #[], .bool true, .bool true] 74)) Bp p from blk_alloc hp (.cells #[.string ⟨#[114, 101, 115, 112, 111, 110, 115, 101]⟩, .func (.func 58) #[] #[], .bool true, .bool true] 74))
      have HC := Aside0.mk (HST.out.s1 (wr.alloc (.cells #[.string ⟨#[114, 101, 115, 112, 111, 110, 115, 101]⟩, .func (.func 58) #[] #[], .bool true, .bool true] 74)) (HLW.out.trans (Lies.below (below_alloc (Below.refl _ _) _))))
      gi_wp2
      refine ⟨trivial, ?_⟩
      refine (callsIn_wide.2 HC.out).mono ?_
      rintro e w4 ⟨rfl, b4⟩
      have JA := Aside0.mk (hJ.step (hJ.alloc (.cells #[.string ⟨#[114, 101, 115, 112, 111, 110, 115, 101]⟩, .func (.func 58) #[] #[], .bool true, .bool true] 74) hJs.out) (grown_below b4))
      have LA := Aside0.mk (hnx.out.trans ((Lies.below (K := KzA w.heap.size Bq Bp) (below_alloc (Below.refl _ _) (.cells #[.string ⟨#[114, 101, 115, 112, 111, 110, 115, 101]⟩, .func (.func 58) #[] #[], .bool true, .bool true] 74))).trans (Lies.below b4)))
      have y0 := pw_cell_below b4 (show (wr.alloc (.cells #[.string ⟨#[114, 101, 115, 112, 111, 110, 115, 101]⟩, .func (.func 58) #[] #[], .bool true, .bool true] 74)).cell? ⟨wr.heap.size, 0, none⟩ = some (.string ⟨#[114, 101, 115, 112, 111, 110, 115, 101]⟩) by simp)
      have y1 := pw_cell_below b4 (show (wr.alloc (.cells #[.string ⟨#[114, 101, 115, 112, 111, 110, 115, 101]⟩, .func (.func 58) #[] #[], .bool true, .bool true] 74)).cell? ⟨wr.heap.size, 1, none⟩ = some (.func (.func 58) #[] #[]) by simp)
      have y2 := pw_cell_below b4 (show (wr.alloc (.cells #[.string ⟨#[114, 101, 115, 112, 111, 110, 115, 101]⟩, .func (.func 58) #[] #[], .bool true, .bool true] 74)).cell? ⟨wr.heap.size, 2, none⟩ = some (.bool true) by simp)
      have y3 := pw_cell_below b4 (show (wr.alloc (.cells #[.string ⟨#[114, 101, 115, 112, 111, 110, 115, 101]⟩, .func (.func 58) #[] #[], .bool true, .bool true] 74)).cell? ⟨wr.heap.size, 3, none⟩ = some (.bool true) by simp)
      have HZA := Aside0.mk (LA.out.size)
      clear b4 HC q0 q1 q2 q3 q4 q5 q6 p0 p1 p2 p3 p4 p5 p6
      obtain ⟨b, hb⟩ : ∃ b, st 1 = b := ⟨_, rfl⟩
      rw [hb]
      cases b with
      | true =>
        have HON := Aside0.mk (onesTo_yes st 1 hb)
        have HPP := Aside0.mk (show onesTo st 1 ++ [1] <+: onesTo st 6 by rw [← HON.out]; exact onesTo_pre st (1 + 1) 4)
        have hY' := hY (n - 1) (onesTo st 1) 1 g w4 JA.out HPP.out
        dsimp only [qRowOf] at hY'
        obtain ⟨fn, tmps, assign, body, hy, hR⟩ := hY'
        have HR := Aside0.mk hR
        clear hR hb
        gi_wp2
        refine HR.out.mono ?_
        rintro e W3 ⟨g', hsp, (⟨rfl, hJ3⟩ | ⟨rfl, hJx3⟩)⟩
        · have HJ3 := Aside0.mk (show J (onesTo st (1 + 1)) g' W3 by rw [HON.out]; exact hJ3)
          have HL3 := Aside0.mk (LA.out.trans (hsp.lies (K' := KzA w.heap.size Bq Bp) (fun q hq _ => ⟨.inr hq, fun e => hgq.out q e.symm hq⟩)))
          have HG3 := Aside0.mk (hsp.not (Kz := KzA w.heap.size Bq Bp) (fun q hq => by have := HZA.out; unfold KzA at hq; rcases hq with hq | hq | hq <;> omega) hgq.out)
          clear hsp hJ3 hy HR y0 y1 y2 y3
          gi_wp2
          go_roundw
          case rel => exact ⟨2, g', by decide, by first | rfl | go_num, HJ3, HG3, HL3⟩
          case measure => simp [intOf]
        · clear hy HR y0 y1 y2 y3
          gi_wp2
          refine bodyPost_ret (results_none rfl _ _ _) rfl ?_
          exact ⟨⟨_, rfl⟩, .inr ⟨_, g', HPP.out, hJx3⟩⟩
      | false =>
        have HJ3 := Aside0.mk (show J (onesTo st (1 + 1)) g w4 by rw [onesTo_no st 1 hb]; exact JA.out)
        clear hb y0 y1 y2 y3
        gi_wp2
        refine ⟨fun f h => (by cases h), ?_⟩
        gi_wp2
        go_roundw
        case rel => exact ⟨2, g, by decide, by first | rfl | go_num, HJ3, hgq, LA⟩
        case measure => simp [intOf]
    · obtain ⟨q0, q1, q2, q3, q4, q5, q6⟩ := HfAt.all (show HfAt (wr.alloc (.cells #[.string ⟨#[111, 112, 101, 110, 45, 111, 117, 116]⟩, .func (.func 59) #[] #[], .bool true, .bool false] 74)) Bq q from blk_alloc hq (.cells #[.string ⟨#[111, 112, 101, 110, 45, 111, 117, 116]⟩, .func (.func 59) #[] #[], .bool true, .bool false] 74))
      obtain ⟨p0, p1, p2, p3, p4, p5, p6⟩ := HfAt.all (show HfAt (wr.alloc (.cells #[.string ⟨#[111, 112, 101, 110, 45, 111, 117, 116]⟩, .func (.func 59) #[] #[], .bool true, .bool false] 74)) Bp p from blk_alloc hp (.cells #[.string ⟨#[111, 112, 101, 110, 45, 111, 117, 116]⟩, .func (.func 59) #[] #[], .bool true, .bool false] 74))
      have HC := Aside0.mk (HST.out.s2 (wr.alloc (.cells #[.string ⟨#[111, 112, 101, 110, 45, 111, 117, 116]⟩, .func (.func 59) #[] #[], .bool true, .bool false] 74)) (HLW.out.trans (Lies.below (below_alloc (Below.refl _ _) _))))
      gi_wp2
      refine ⟨trivial, ?_⟩
      refine (callsIn_wide.2 HC.out).mono ?_
      rintro e w4 ⟨rfl, b4⟩
      have JA := Aside0.mk (hJ.step (hJ.alloc (.cells #[.string ⟨#[111, 112, 101, 110, 45, 111, 117, 116]⟩, .func (.func 59) #[] #[], .bool true, .bool false] 74) hJs.out) (grown_below b4))
      have LA := Aside0.mk (hnx.out.trans ((Lies.below (K := KzA w.heap.size Bq Bp) (below_alloc (Below.refl _ _) (.cells #[.string ⟨#[111, 112, 101, 110, 45, 111, 117, 116]⟩, .func (.func 59) #[] #[], .bool true, .bool false] 74))).trans (Lies.below b4)))
      have y0 := pw_cell_below b4 (show (wr.alloc (.cells #[.string ⟨#[111, 112, 101, 110, 45, 111, 117, 116]⟩, .func (.func 59) #[] #[], .bool true, .bool false] 74)).cell? ⟨wr.heap.size, 0, none⟩ = some (.string ⟨#[111, 112, 101, 110, 45, 111, 117, 116]⟩) by simp)
      have y1 := pw_cell_below b4 (show (wr.alloc (.cells #[.string ⟨#[111, 112, 101, 110, 45, 111, 117, 116]⟩, .func (.func 59) #[] #[], .bool true, .bool false] 74)).cell? ⟨wr.heap.size, 1, none⟩ = some (.func (.func 59) #[] #[]) by simp)
      have y2 := pw_cell_below b4 (show (wr.alloc (.cells #[.string ⟨#[111, 112, 101, 110, 45, 111, 117, 116]⟩, .func (.func 59) #[] #[], .bool true, .bool false] 74)).cell? ⟨wr.heap.size, 2, none⟩ = some (.bool true) by simp)
      have y3 := pw_cell_below b4 (show (wr.alloc (.cells #[.string ⟨#[111, 112, 101, 110, 45, 111, 117, 116]⟩, .func (.func 59) #[] #[], .bool true, .bool false] 74)).cell? ⟨wr.heap.size, 3, none⟩ = some (.bool false) by simp)
      have HZA := Aside0.mk (LA.out.size)
      clear b4 HC q0 q1 q2 q3 q4 q5 q6 p0 p1 p2 p3 p4 p5 p6
      obtain ⟨b, hb⟩ : ∃ b, st 2 = b := ⟨_, rfl⟩
      rw [hb]
      cases b with
      | true =>
        have HON := Aside0.mk (onesTo_yes st 2 hb)
        have HPP := Aside0.mk (show onesTo st 2 ++ [2] <+: onesTo st 6 by rw [← HON.out]; exact onesTo_pre st (2 + 1) 3)
        have hY' := hY (n - 1) (onesTo st 2) 2 g w4 JA.out HPP.out
        dsimp only [qRowOf] at hY'
        obtain ⟨fn, tmps, assign, body, hy, hR⟩ := hY'
        have HR := Aside0.mk hR
        clear hR hb
        gi_wp2
        refine HR.out.mono ?_
        rintro e W3 ⟨g', hsp, (⟨rfl, hJ3⟩ | ⟨rfl, hJx3⟩)⟩
        · have HJ3 := Aside0.mk (show J (onesTo st (2 + 1)) g' W3 by rw [HON.out]; exact hJ3)
          have HL3 := Aside0.mk (LA.out.trans (hsp.lies (K' := KzA w.heap.size Bq Bp) (fun q hq _ => ⟨.inr hq, fun e => hgq.out q e.symm hq⟩)))
          have HG3 := Aside0.mk (hsp.not (Kz := KzA w.heap.size Bq Bp) (fun q hq => by have := HZA.out; unfold KzA at hq; rcases hq with hq | hq | hq <;> omega) hgq.out)
          clear hsp hJ3 hy HR y0 y1 y2 y3
          gi_wp2
          go_roundw
          case rel => exact ⟨3, g', by decide, by first | rfl | go_num, HJ3, HG3, HL3⟩
          case measure => simp [intOf]
        · clear hy HR y0 y1 y2 y3
          gi_wp2
          refine bodyPost_ret (results_none rfl _ _ _) rfl ?_
          exact ⟨⟨_, rfl⟩, .inr ⟨_, g', HPP.out, hJx3⟩⟩
      | false =>
        have HJ3 := Aside0.mk (show J (onesTo st (2 + 1)) g w4 by rw [onesTo_no st 2 hb]; exact JA.out)
        clear hb y0 y1 y2 y3
        gi_wp2
        refine ⟨fun f h => (by cases h), ?_⟩
        gi_wp2
        go_roundw
        case rel => exact ⟨3, g, by decide, by first | rfl | go_num, HJ3, hgq, LA⟩
        case measure => simp [intOf]
    · obtain ⟨q0, q1, q2, q3, q4, q5, q6⟩ := HfAt.all (show HfAt (wr.alloc (.cells #[.string ⟨#[111, 112, 101, 110, 45, 105, 110]⟩, .func (.func 60) #[] #[], .bool false, .bool true] 74)) Bq q from blk_alloc hq (.cells #[.string ⟨#[111, 112, 101, 110, 45, 105, 110]⟩, .func (.func 60) #[] #[], .bool false, .bool true] 74))
      obtain ⟨p0, p1, p2, p3, p4, p5, p6⟩ := HfAt.all (show HfAt (wr.alloc (.cells #[.string ⟨#[111, 112, 101, 110, 45, 105, 110]⟩, .func (.func 60) #[] #[], .bool false, .bool true] 74)) Bp p from blk_alloc hp (.cells #[.string ⟨#[111, 112, 101, 110, 45, 105, 110]⟩, .func (.func 60) #[] #[], .bool false, .bool true] 74))
      have HC := Aside0.mk (HST.out.s3 (wr.alloc (.cells #[.string ⟨#[111, 112, 101, 110, 45, 105, 110]⟩, .func (.func 60) #[] #[], .bool false, .bool true] 74)) (HLW.out.trans (Lies.below (below_alloc (Below.refl _ _) _))))
      gi_wp2
      refine ⟨trivial, ?_⟩
      refine (callsIn_wide.2 HC.out).mono ?_
      rintro e w4 ⟨rfl, b4⟩
      have JA := Aside0.mk (hJ.step (hJ.alloc (.cells #[.string ⟨#[111, 112, 101, 110, 45, 105, 110]⟩, .func (.func 60) #[] #[], .bool false, .bool true] 74) hJs.out) (grown_below b4))
      have LA := Aside0.mk (hnx.out.trans ((Lies.below (K := KzA w.heap.size Bq Bp) (below_alloc (Below.refl _ _) (.cells #[.string ⟨#[111, 112, 101, 110, 45, 105, 110]⟩, .func (.func 60) #[] #[], .bool false, .bool true] 74))).trans (Lies.below b4)))
      have y0 := pw_cell_below b4 (show (wr.alloc (.cells #[.string ⟨#[111, 112, 101, 110, 45, 105, 110]⟩, .func (.func 60) #[] #[], .bool false, .bool true] 74)).cell? ⟨wr.heap.size, 0, none⟩ = some (.string ⟨#[111, 112, 101, 110, 45, 105, 110]⟩) by simp)
      have y1 := pw_cell_below b4 (show (wr.alloc (.cells #[.string ⟨#[111, 112, 101, 110, 45, 105, 110]⟩, .func (.func 60) #[] #[], .bool false, .bool true] 74)).cell? ⟨wr.heap.size, 1, none⟩ = some (.func (.func 60) #[] #[]) by simp)
      have y2 := pw_cell_below b4 (show (wr.alloc (.cells #[.string ⟨#[111, 112, 101, 110, 45, 105, 110]⟩, .func (.func 60) #[] #[], .bool false, .bool true] 74)).cell? ⟨wr.heap.size, 2, none⟩ = some (.bool false) by simp)
      have y3 := pw_cell_below b4 (show (wr.alloc (.cells #[.string ⟨#[111, 112, 101, 110, 45, 105, 110]⟩, .func (.func 60) #[] #[], .bool false, .bool true] 74)).cell? ⟨wr.heap.size, 3, none⟩ = some (.bool true) by simp)
      have HZA := Aside0.mk (LA.out.size)
      clear b4 HC q0 q1 q2 q3 q4 q5 q6 p0 p1 p2 p3 p4 p5 p6
      obtain ⟨b, hb⟩ : ∃ b, st 3 = b := ⟨_, rfl⟩
      rw [hb]
      cases b with
      | true =>
        have HON := Aside0.mk (onesTo_yes st 3 hb)
        have HPP := Aside0.mk (show onesTo st 3 ++ [3] <+: onesTo st 6 by rw [← HON.out]; exact onesTo_pre st (3 + 1) 2)
        have hY' := hY (n - 1) (onesTo st 3) 3 g w4 JA.out HPP.out
        dsimp only [qRowOf] at hY'
        obtain ⟨fn, tmps, assign, body, hy, hR⟩ := hY'
        have HR := Aside0.mk hR
        clear hR hb
        gi_wp2
        refine HR.out.mono ?_
        rintro e W3 ⟨g', hsp, (⟨rfl, hJ3⟩ | ⟨rfl, hJx3⟩)⟩
        · have HJ3 := Aside0.mk (show J (onesTo st (3 + 1)) g' W3 by rw [HON.out]; exact hJ3)
          have HL3 := Aside0.mk (LA.out.trans (hsp.lies (K' := KzA w.heap.size Bq Bp) (fun q hq _ => ⟨.inr hq, fun e => hgq.out q e.symm hq⟩)))
          have HG3 := Aside0.mk (hsp.not (Kz := KzA w.heap.size Bq Bp) (fun q hq => by have := HZA.out; unfold KzA at hq; rcases hq with hq | hq | hq <;> omega) hgq.out)
          clear hsp hJ3 hy HR y0 y1 y2 y3
          gi_wp2
          go_roundw
          case rel => exact ⟨4, g', by decide, by first | rfl | go_num, HJ3, HG3, HL3⟩
          case measure => simp [intOf]
        · clear hy HR y0 y1 y2 y3
          gi_wp2
          refine bodyPost_ret (results_none rfl _ _ _) rfl ?_
          exact ⟨⟨_, rfl⟩, .inr ⟨_, g', HPP.out, hJx3⟩⟩
      | false =>
        have HJ3 := Aside0.mk (show J (onesTo st (3 + 1)) g w4 by rw [onesTo_no st 3 hb]; exact JA.out)
        clear hb y0 y1 y2 y3
        gi_wp2
        refine ⟨fun f h => (by cases h), ?_⟩
        gi_wp2
        go_roundw
        case rel => exact ⟨4, g, by decide, by first | rfl | go_num, HJ3, hgq, LA⟩
        case measure => simp [intOf]
    · obtain ⟨q0, q1, q2, q3, q4, q5, q6⟩ := HfAt.all (show HfAt (wr.alloc (.cells #[.string ⟨#[114, 101, 115, 116]⟩, .func (.func 61) #[] #[], .bool false, .bool true] 74)) Bq q from blk_alloc hq (.cells #[.string ⟨#[114, 101, 115, 116]⟩, .func (.func 61) #[] #[], .bool false, .bool true] 74))
      obtain ⟨p0, p1, p2, p3, p4, p5, p6⟩ := HfAt.all (show HfAt (wr.alloc (.cells #[.string ⟨#[114, 101, 115, 116]⟩, .func (.func 61) #[] #[], .bool false, .bool true] 74)) Bp p from blk_alloc hp (.cells #[.string ⟨#[114, 101, 115, 116]⟩, .func (.func 61) #[] #[], .bool false, .bool true] 74))
      have HC := Aside0.mk (HST.out.s4 (wr.alloc (.cells #[.string ⟨#[114, 101, 115, 116]⟩, .func (.func 61) #[] #[], .bool false, .bool true] 74)) (HLW.out.trans (Lies.below (below_alloc (Below.refl _ _) _))))
      gi_wp2
      refine ⟨trivial, ?_⟩
      refine (callsIn_wide.2 HC.out).mono ?_
      rintro e w4 ⟨rfl, b4⟩
      have JA := Aside0.mk (hJ.step (hJ.alloc (.cells #[.string ⟨#[114, 101, 115, 116]⟩, .func (.func 61) #[] #[], .bool false, .bool true] 74) hJs.out) (grown_below b4))
      have LA := Aside0.mk (hnx.out.trans ((Lies.below (K := KzA w.heap.size Bq Bp) (below_alloc (Below.refl _ _) (.cells #[.string ⟨#[114, 101, 115, 116]⟩, .func (.func 61) #[] #[], .bool false, .bool true] 74))).trans (Lies.below b4)))
      have y0 := pw_cell_below b4 (show (wr.alloc (.cells #[.string ⟨#[114, 101, 115, 116]⟩, .func (.func 61) #[] #[], .bool false, .bool true] 74)).cell? ⟨wr.heap.size, 0, none⟩ = some (.string ⟨#[114, 101, 115, 116]⟩) by simp)
      have y1 := pw_cell_below b4 (show (wr.alloc (.cells #[.string ⟨#[114, 101, 115, 116]⟩, .func (.func 61) #[] #[], .bool false, .bool true] 74)).cell? ⟨wr.heap.size, 1, none⟩ = some (.func (.func 61) #[] #[]) by simp)
      have y2 := pw_cell_below b4 (show (wr.alloc (.cells #[.string ⟨#[114, 101, 115, 116]⟩, .func (.func 61) #[] #[], .bool false, .bool true] 74)).cell? ⟨wr.heap.size, 2, none⟩ = some (.bool false) by simp)
      have y3 := pw_cell_below b4 (show (wr.alloc (.cells #[.string ⟨#[114, 101, 115, 116]⟩, .func (.func 61) #[] #[], .bool false, .bool true] 74)).cell? ⟨wr.heap.size, 3, none⟩ = some (.bool true) by simp)
      have HZA := Aside0.mk (LA.out.size)
      clear b4 HC q0 q1 q2 q3 q4 q5 q6 p0 p1 p2 p3 p4 p5 p6
      obtain ⟨b, hb⟩ : ∃ b, st 4 = b := ⟨_, rfl⟩
      rw [hb]
      cases b with
      | true =>
        have HON := Aside0.mk (onesTo_yes st 4 hb)
        have HPP := Aside0.mk (show onesTo st 4 ++ [4] <+: onesTo st 6 by rw [← HON.out]; exact onesTo_pre st (4 + 1) 1)
        have hY' := hY (n - 1) (onesTo st 4) 4 g w4 JA.out HPP.out
        dsimp only [qRowOf] at hY'
        obtain ⟨fn, tmps, assign, body, hy, hR⟩ := hY'
        have HR := Aside0.mk hR
        clear hR hb
        gi_wp2
        refine HR.out.mono ?_
        rintro e W3 ⟨g', hsp, (⟨rfl, hJ3⟩ | ⟨rfl, hJx3⟩)⟩
        · have HJ3 := Aside0.mk (show J (onesTo st (4 + 1)) g' W3 by rw [HON.out]; exact hJ3)
          have HL3 := Aside0.mk (LA.out.trans (hsp.lies (K' := KzA w.heap.size Bq Bp) (fun q hq _ => ⟨.inr hq, fun e => hgq.out q e.symm hq⟩)))
          have HG3 := Aside0.mk (hsp.not (Kz := KzA w.heap.size Bq Bp) (fun q hq => by have := HZA.out; unfold KzA at hq; rcases hq with hq | hq | hq <;> omega) hgq.out)
          clear hsp hJ3 hy HR y0 y1 y2 y3
          gi_wp2
          go_roundw
          case rel => exact ⟨5, g', by decide, by first | rfl | go_num, HJ3, HG3, HL3⟩
          case measure => simp [intOf]
        · clear hy HR y0 y1 y2 y3
          gi_wp2
          refine bodyPost_ret (results_none rfl _ _ _) rfl ?_
          exact ⟨⟨_, rfl⟩, .inr ⟨_, g', HPP.out, hJx3⟩⟩
      | false =>
        have HJ3 := Aside0.mk (show J (onesTo st (4 + 1)) g w4 by rw [onesTo_no st 4 hb]; exact JA.out)
        clear hb y0 y1 y2 y3
        gi_wp2
        refine ⟨fun f h => (by cases h), ?_⟩
        gi_wp2
        go_roundw
        case rel => exact ⟨5, g, by decide, by first | rfl | go_num, HJ3, hgq, LA⟩
        case measure => simp [intOf]
    · obtain ⟨q0, q1, q2, q3, q4, q5, q6⟩ := HfAt.all (show HfAt (wr.alloc (.cells #[.string ⟨#[99, 108, 111, 115, 101]⟩, .func (.func 62) #[] #[], .bool true, .bool true] 74)) Bq q from blk_alloc hq (.cells #[.string ⟨#[99, 108, 111, 115, 101]⟩, .func (.func 62) #[] #[], .bool true, .bool true] 74))
      obtain ⟨p0, p1, p2, p3, p4, p5, p6⟩ := HfAt.all (show HfAt (wr.alloc (.cells #[.string ⟨#[99, 108, 111, 115, 101]⟩, .func (.func 62) #[] #[], .bool true, .bool true] 74)) Bp p from blk_alloc hp (.cells #[.string ⟨#[99, 108, 111, 115, 101]⟩, .func (.func 62) #[] #[], .bool true, .bool true] 74))
      have HC := Aside0.mk (HST.out.s5 (wr.alloc (.cells #[.string ⟨#[99, 108, 111, 115, 101]⟩, .func (.func 62) #[] #[], .bool true, .bool true] 74)) (HLW.out.trans (Lies.below (below_alloc (Below.refl _ _) _))))
      gi_wp2
      refine ⟨trivial, ?_⟩
      refine (callsIn_wide.2 HC.out).mono ?_
      rintro e w4 ⟨rfl, b4⟩
      have JA := Aside0.mk (hJ.step (hJ.alloc (.cells #[.string ⟨#[99, 108, 111, 115, 101]⟩, .func (.func 62) #[] #[], .bool true, .bool true] 74) hJs.out) (grown_below b4))
      have LA := Aside0.mk (hnx.out.trans ((Lies.below (K := KzA w.heap.size Bq Bp) (below_alloc (Below.refl _ _) (.cells #[.string ⟨#[99, 108, 111, 115, 101]⟩, .func (.func 62) #[] #[], .bool true, .bool true] 74))).trans (Lies.below b4)))
      have y0 := pw_cell_below b4 (show (wr.alloc (.cells #[.string ⟨#[99, 108, 111, 115, 101]⟩, .func (.func 62) #[] #[], .bool true, .bool true] 74)).cell? ⟨wr.heap.size, 0, none⟩ = some (.string ⟨#[99, 108, 111, 115, 101]⟩) by simp)
      have y1 := pw_cell_below b4 (show (wr.alloc (.cells #[.string ⟨#[99, 108, 111, 115, 101]⟩, .func (.func 62) #[] #[], .bool true, .bool true] 74)).cell? ⟨wr.heap.size, 1, none⟩ = some (.func (.func 62) #[] #[]) by simp)
      have y2 := pw_cell_below b4 (show (wr.alloc (.cells #[.string ⟨#[99, 108, 111, 115, 101]⟩, .func (.func 62) #[] #[], .bool true, .bool true] 74)).cell? ⟨wr.heap.size, 2, none⟩ = some (.bool true) by simp)
      have y3 := pw_cell_below b4 (show (wr.alloc (.cells #[.string ⟨#[99, 108, 111, 115, 101]⟩, .func (.func 62) #[] #[], .bool true, .bool true] 74)).cell? ⟨wr.heap.size, 3, none⟩ = some (.bool true) by simp)
      have HZA := Aside0.mk (LA.out.size)
      clear b4 HC q0 q1 q2 q3 q4 q5 q6 p0 p1 p2 p3 p4 p5 p6
      obtain ⟨b, hb⟩ : ∃ b, st 5 = b := ⟨_, rfl⟩
      rw [hb]
      cases b with
      | true =>
        have HON := Aside0.mk (onesTo_yes st 5 hb)
        have HPP := Aside0.mk (show onesTo st 5 ++ [5] <+: onesTo st 6 by rw [← HON.out]; exact onesTo_pre st (5 + 1) 0)
        have hY' := hY (n - 1) (onesTo st 5) 5 g w4 JA.out HPP.out
        dsimp only [qRowOf] at hY'
        obtain ⟨fn, tmps, assign, body, hy, hR⟩ := hY'
        have HR := Aside0.mk hR
        clear hR hb
        gi_wp2
        refine HR.out.mono ?_
        rintro e W3 ⟨g', hsp, (⟨rfl, hJ3⟩ | ⟨rfl, hJx3⟩)⟩
        · have HJ3 := Aside0.mk (show J (onesTo st (5 + 1)) g' W3 by rw [HON.out]; exact hJ3)
          have HL3 := Aside0.mk (LA.out.trans (hsp.lies (K' := KzA w.heap.size Bq Bp) (fun q hq _ => ⟨.inr hq, fun e => hgq.out q e.symm hq⟩)))
          have HG3 := Aside0.mk (hsp.not (Kz := KzA w.heap.size Bq Bp) (fun q hq => by have := HZA.out; unfold KzA at hq; rcases hq with hq | hq | hq <;> omega) hgq.out)
          clear hsp hJ3 hy HR y0 y1 y2 y3
          gi_wp2
          go_roundw
          case rel => exact ⟨6, g', by decide, by first | rfl | go_num, HJ3, HG3, HL3⟩
          case measure => simp [intOf]
        · clear hy HR y0 y1 y2 y3
          gi_wp2
          refine bodyPost_ret (results_none rfl _ _ _) rfl ?_
          exact ⟨⟨_, rfl⟩, .inr ⟨_, g', HPP.out, hJx3⟩⟩
      | false =>
        have HJ3 := Aside0.mk (show J (onesTo st (5 + 1)) g w4 by rw [onesTo_no st 5 hb]; exact JA.out)
        clear hb y0 y1 y2 y3
        gi_wp2
        refine ⟨fun f h => (by cases h), ?_⟩
        gi_wp2
        go_roundw
        case rel => exact ⟨6, g, by decide, by first | rfl | go_num, HJ3, hgq, LA⟩
        case measure => simp [intOf]
    · gi_wp2
      go_end0
      exact ⟨⟨_, rfl⟩, .inl ⟨_, g, rfl, hJs.out⟩⟩
end Go.Proofs.YtofegjgiocljlaaDoorH
end
section
namespace Go.Proofs.YtofegjgiocljlaaDoorH
open Go.RowKit Go.Proofs.YtofegjgiocljlaaDoorW.PrintWords Go.Proofs.YtofegjgiocljlaaDoorW.PrintLast Go.Proofs.YtofegjgiocljlaaDoorW.PrintMore
def allB (p : Int → Bool) (s : ByteArray) : Bool := s.data.toList.all fun c => p c.toNat
theorem bt_nat (s : ByteArray) (k : Nat) (h : k < s.size) : bt s (k : Int) = ((s.data.toList.getD k 0).toNat : Int) := by
  have h' : k < s.data.toList.length := by rw [data_length]; exact h
  rw [← rd_bytesOf]
  simp [rd, bytesOf, List.getD_eq_getElem?_getD, List.getElem?_eq_getElem h']
theorem bytes_cell (w : World) (e : TypeId) (s : ByteArray) (k : Nat) (hk : k < s.size) {wr : World} (hb : Below (Lib.bytesWorld w e s).heap.size (Lib.bytesWorld w e s) wr) :
    wr.cell? ⟨w.heap.size, k, none⟩ = some (.int .u8 (bt s k)) := by
  rw [hb.cell (p := ⟨w.heap.size, k, none⟩) (by rw [Lib.bytesWorld_size]; simp), Lib.bytesWorld_cell w e s k hk, bt_nat s k hk]
def blankI (c : Int) : Bool := (c == 32) || (c == 9)
def textI (c : Int) : Bool := blankI c || (decide (c > 32) && (c != 127))
def otherL : List Int := [33, 35, 36, 37, 38, 39, 42, 43, 45, 46, 94, 95, 96, 124, 126]
def alnumI (c : Int) : Bool := decide (48 ≤ c ∧ c ≤ 57) || decide (65 ≤ c ∧ c ≤ 90) || decide (97 ≤ c ∧ c ≤ 122)
def tokI (c : Int) : Bool := alnumI c || otherL.contains c
def tokB (s : ByteArray) : Bool := !(s.data.toList.isEmpty) && allB tokI s
end Go.Proofs.YtofegjgiocljlaaDoorH
end
section
namespace Go.Proofs.YtofegjgiocljlaaDoorH
open Go.RowKit Go.Proofs.YtofegjgiocljlaaDoorW.PrintWords Go.Proofs.YtofegjgiocljlaaDoorW.PrintLast Go.Proofs.YtofegjgiocljlaaDoorW.PrintMore
def smallI (c : Int) : Int := if 65 ≤ c ∧ c ≤ 90 then c + 32 else c
def smallL (s : ByteArray) : List Int := (bytesOf s).map smallI
def smallS (s : ByteArray) : ByteArray := strOfNums (smallL s)
theorem smallL_length (s : ByteArray) : (smallL s).length = s.size := by unfold smallL; rw [List.length_map, bytesOf_length]
theorem smallL_at (s : ByteArray) (j : Nat) (h : j < s.size) : (smallL s).getD j 0 = smallI (bt s j) := by
  have h' : j < (bytesOf s).length := by rw [bytesOf_length]; exact h
  rw [← rd_bytesOf]
  unfold smallL rd
  rw [List.getD_eq_getElem?_getD, List.getElem?_map, List.getElem?_eq_getElem h', Int.toNat_natCast, List.getD_eq_getElem?_getD, List.getElem?_eq_getElem h']
  rfl
structure SmallAt (w : World) (s : ByteArray) (k : Nat) (wr : World) : Prop where
  below : Below w.heap.size w wr
  size : w.heap.size < wr.heap.size
  low : ∀ j : Nat, j < k → wr.cell? ⟨w.heap.size, j, none⟩ = some (.int .u8 (smallI (bt s j)))
  high : ∀ j : Nat, k ≤ j → j < s.size → wr.cell? ⟨w.heap.size, j, none⟩ = some (.int .u8 (bt s j))
  free : ∀ j : Nat, j < s.size → wr.frozen? ⟨w.heap.size, j, none⟩ = false
theorem SmallAt.start (w : World) (s : ByteArray) (e : TypeId) : SmallAt w s 0 (Lib.bytesWorld w e s) := by
  refine ⟨bytes_below (Below.refl _ _) (Nat.le_refl _) e s, by rw [Lib.bytesWorld_size]; omega, fun j h => by omega, fun j _ h => bytes_cell w e s j h (Below.refl _ _), fun j h => ?_⟩
  have h2 : j < (Lib.bytesCells w e s).size := by
    unfold Lib.bytesCells
    have : s.data.size = s.size := rfl
    simp
    omega
  simp only [World.frozen?, Lib.bytesWorld_at_new]
  simp
  omega
theorem SmallAt.same {w : World} {s : ByteArray} {k : Nat} {wr : World} (h : SmallAt w s k wr) (hk : k < s.size) (hs : smallI (bt s k) = bt s k) : SmallAt w s (k + 1) wr := by
  refine ⟨h.below, h.size, fun j hj => ?_, fun j h1 h2 => h.high j (by omega) h2, h.free⟩
  rcases Nat.lt_succ_iff_lt_or_eq.1 hj with h1 | h1
  · exact h.low j h1
  · subst h1; rw [hs]; exact h.high j (Nat.le_refl _) hk
theorem SmallAt.put {w : World} {s : ByteArray} {k : Nat} {wr : World} (h : SmallAt w s k wr) (hk : k < s.size) {v : Int} (hv : v = smallI (bt s k)) : SmallAt w s (k + 1) (wr.setCell ⟨w.heap.size, k, none⟩ (.int .u8 v)) := by
  subst hv
  have hc := h.high k (Nat.le_refl _) hk
  refine ⟨h.below.setCell (p := ⟨w.heap.size, k, none⟩) (Nat.le_refl _) _, by simpa using h.size, fun j hj => ?_, fun j h1 h2 => ?_, fun j hj => by rw [World.frozen?_setCell]; exact h.free j hj⟩
  · rcases Nat.lt_succ_iff_lt_or_eq.1 hj with h1 | h1
    · rw [World.cell?_setCell_other _ _ _ _ (by intro e; injection e with _ e2; omega)]
      exact h.low j h1
    · subst h1
      exact World.cell?_setCell_same' _ _ _ (by rw [hc]; rfl)
  · rw [World.cell?_setCell_other _ _ _ _ (by intro e; injection e with _ e2; omega)]
    exact h.high j (by omega) h2
set_option maxHeartbeats 800000 in
set_option maxRecDepth 100000 in
theorem small_calls (s : ByteArray) (w : World) (hs : s.size ≤ 140737488355328) (hG : TabOk w) :
    Calls Tryd.prog 48 #[.string s] w fun e w' => e = .returned (.string (smallS s)) ∧ Below w.heap.size w w' := by
  have kb := fun W => print_bytes (P := Tryd.prog) 9 61 5 Tryd.underlying9 Tryd.underlying61 Tryd.underlying5 s W
  have HS := Aside0.mk (SmallAt.start w s 5)
  have HG := Aside0.mk hG
  clear hG
  go_enter Tryd.func48, Tryd.ntmps48
  go_wp2
  clear kb
  go_loopw [10] (fun i wr => ∃ k : Nat, k ≤ s.size ∧ i = .int .i64 k ∧ Aside0 (SmallAt w s k wr)) (fun i _ => s.size - (intOf i).toNat)
  case atStart => exact ⟨0, Nat.zero_le _, rfl, HS⟩
  case round =>
    obtain ⟨k, hk, rfl, hr⟩ := hrel
    have hGr := HG.out.below hr.out.below
    have e2 := hGr.c2
    have e3 := hGr.c3
    clear hGr
    by_cases hlt : k < s.size
    · have hc := hr.out.high k (Nat.le_refl _) hlt
      have hf := hr.out.free k hlt
      have hrg := bt_range s k
      generalize hbt : bt s (k : Int) = c at hc hrg
      have HBT := Aside0.mk hbt
      clear hbt
      by_cases h1 : 65 ≤ c
      · by_cases h2 : c ≤ 90
        · go_wp2
          go_roundw
          case rel => exact ⟨k + 1, by omega, by go_num, ⟨hr.out.put hlt (by rw [HBT.out]; unfold smallI; rw [if_pos ⟨h1, h2⟩])⟩⟩
          case measure => simp [intOf]; omega
        · have h2' : 90 < c := by omega
          clear h2
          go_wp2
          go_roundw
          case rel => exact ⟨k + 1, by omega, by go_num, ⟨hr.out.same hlt (by rw [HBT.out]; unfold smallI; rw [if_neg (by omega)])⟩⟩
          case measure => simp [intOf]; omega
      · have h1' : c < 65 := by omega
        clear h1
        go_wp2
        go_roundw
        case rel => exact ⟨k + 1, by omega, by go_num, ⟨hr.out.same hlt (by rw [HBT.out]; unfold smallI; rw [if_neg (by omega)])⟩⟩
        case measure => simp [intOf]; omega
    · have hke : k = s.size := by omega
      have hcv := run_convert_bytes_arg (P := Tryd.prog) wr 61 5 Tryd.underlying61 Tryd.underlying5 w.heap.size 0 s.size (grownCap w s.size 0 5) (smallL s) (smallL_length s) (fun i hi => by
        rw [Nat.zero_add, hr.out.low i (by omega), smallL_at s i hi]) 9 Tryd.underlying9
      clear hke
      go_wp2
      go_ret
      exact ⟨rfl, hr.out.below⟩
end Go.Proofs.YtofegjgiocljlaaDoorH
end
section
namespace Go.Proofs.YtofegjgiocljlaaDoorH
open Go.RowKit Go.Proofs.YtofegjgiocljlaaDoorW.PrintWords Go.Proofs.YtofegjgiocljlaaDoorW.PrintLast Go.Proofs.YtofegjgiocljlaaDoorW.PrintMore
def trimL (l : List UInt8) : List UInt8 := Lib.trimS l [32, 9]
def trimS (s : ByteArray) : ByteArray := ⟨(trimL s.data.toList).toArray⟩
set_option maxHeartbeats 800000 in
set_option maxRecDepth 100000 in
theorem trim_calls (s : ByteArray) (w : World) (hs : s.size ≤ 140737488355328) :
    Calls Tryd.prog 66 #[.string s] w fun e w' => e = .returned (.string (trimS s)) ∧ Below w.heap.size w w' := by
  have H := Aside0.mk (Any.strings_Trim_laid Tryd.lays160 (by kernel_rfl) s ⟨#[32, 9]⟩ w (by omega) (by decide) (ascii_of_all (by decide)))
  go_enter Tryd.func66, Tryd.ntmps66
  go_wp2_with fail
  refine H.out.mono ?_
  rintro e w' ⟨rfl, hb⟩
  have HB := Aside0.mk hb
  clear hb
  go_wp2
  go_ret
  exact ⟨rfl, HB.out⟩
def octet_Text.f (a0 : ByteArray) : Option Bool := if a0.size ≤ 140737488355328 then some (allB textI a0) else none
def octet_Token.f (a0 : ByteArray) : Option Bool := if a0.size ≤ 140737488355328 then some (tokB a0) else none
def octet_Small.f (a0 : ByteArray) : Option ByteArray := if a0.size ≤ 140737488355328 then some (smallS a0) else none
def octet_Trim.f (a0 : ByteArray) : Option ByteArray := if a0.size ≤ 140737488355328 then some (trimS a0) else none
theorem octet_Trim.calls (a0 : ByteArray) (r : ByteArray) (w : World) (_hG : TabOk w) (h : octet_Trim.f a0 = some r) :
    Calls Tryd.prog 66 #[.string a0] w fun e w' => e = .returned (.string r) ∧ Below w.heap.size w w' := by
  unfold octet_Trim.f at h
  split at h
  · injection h with h; subst h; exact trim_calls a0 w (by assumption)
  · cases h
end Go.Proofs.YtofegjgiocljlaaDoorH
end
section
namespace Go.Proofs.YtofegjgiocljlaaDoorH
open Go.RowKit Go.Proofs.YtofegjgiocljlaaDoorW.PrintWords Go.Proofs.YtofegjgiocljlaaDoorW.PrintLast Go.Proofs.YtofegjgiocljlaaDoorW.PrintMore
theorem bytes_ext {a b : ByteArray} (h : a.data.toList = b.data.toList) : a = b := by
  cases a; cases b
  congr 1
  exact Array.toList_inj.1 h
theorem beq_toList (a b : ByteArray) : (a.toList == b.toList) = decide (a = b) := by
  rw [ByteArray.toList_eq, ByteArray.toList_eq, Bool.eq_iff_iff]
  simp only [beq_iff_eq, decide_eq_true_eq]
  exact ⟨bytes_ext, fun h => by rw [h]⟩
theorem size_eq_length (s : ByteArray) : s.size = s.data.toList.length := (data_length s).symm
def rtrim (p : UInt8 → Bool) (l : List UInt8) : List UInt8 := (l.reverse.dropWhile p).reverse
def blankU (c : UInt8) : Bool := ([32, 9] : List UInt8).contains c
theorem trimL_eq (l : List UInt8) : trimL l = (rtrim blankU l).dropWhile blankU := rfl
theorem trimS_data (s : ByteArray) : (trimS s).data.toList = trimL s.data.toList := rfl
theorem rtrim_length (p : UInt8 → Bool) (l : List UInt8) : (rtrim p l).length ≤ l.length := by
  unfold rtrim
  have := (List.dropWhile_sublist p (l := l.reverse)).length_le
  simpa using this
theorem trimL_length (l : List UInt8) : (trimL l).length ≤ l.length := by
  rw [trimL_eq]
  exact Nat.le_trans (List.dropWhile_sublist _).length_le (rtrim_length _ _)
theorem trimS_size (s : ByteArray) : (trimS s).size ≤ s.size := by
  rw [size_eq_length, size_eq_length, trimS_data]
  exact trimL_length _
theorem extract_list (s : ByteArray) (i j : Nat) : (s.extract i j).data.toList = (s.data.toList.drop i).take (j - i) := by
  rw [ByteArray.data_extract, Array.toList_extract, List.extract_eq_take_drop]
theorem extract_from (s : ByteArray) (i : Nat) : (s.extract i s.size).data.toList = s.data.toList.drop i := by
  rw [extract_list, List.take_of_length_le]
  rw [List.length_drop, data_length]
  exact Nat.le_refl _
theorem extract_to (s : ByteArray) (j : Nat) : (s.extract 0 j).data.toList = s.data.toList.take j := by
  rw [extract_list, List.drop_zero, Nat.sub_zero]
end Go.Proofs.YtofegjgiocljlaaDoorH
end
section
namespace Go.Proofs.YtofegjgiocljlaaDoorH
open Go
def splitL (c : UInt8) : List UInt8 → List (List UInt8)
  | [] => [[]]
  | b :: l => if b == c then [] :: splitL c l else match splitL c l with
    | [] => [[b]]
    | p :: ps => (b :: p) :: ps
theorem splitL_ne (c : UInt8) : ∀ l : List UInt8, splitL c l ≠ []
  | [] => by simp [splitL]
  | b :: l => by
    unfold splitL
    split
    · simp
    · split <;> simp
theorem splitL_cons_ne (c b : UInt8) (l : List UInt8) (h : (b == c) = false) : ∃ p ps, splitL c l = p :: ps ∧ splitL c (b :: l) = (b :: p) :: ps := by
  cases hs : splitL c l with
  | nil => exact absurd hs (splitL_ne c l)
  | cons p ps => exact ⟨p, ps, rfl, by rw [splitL, if_neg (by simp [h]), hs]⟩
theorem splitL_cons_eq (c b : UInt8) (l : List UInt8) (h : (b == c) = true) : splitL c (b :: l) = [] :: splitL c l := by rw [splitL, if_pos h]
theorem splitL_none (c : UInt8) : ∀ l : List UInt8, l.findIdx (· == c) = l.length → splitL c l = [l]
  | [], _ => rfl
  | b :: l, h => by
    rw [List.findIdx_cons] at h
    cases hb : b == c with
    | true => rw [hb] at h; simp at h
    | false =>
      rw [hb] at h
      simp only [cond_false, List.length_cons] at h
      obtain ⟨p, ps, h1, h2⟩ := splitL_cons_ne c b l hb
      rw [splitL_none c l (by omega)] at h1
      cases h1
      exact h2
theorem splitL_some (c : UInt8) : ∀ l : List UInt8, l.findIdx (· == c) < l.length → splitL c l = l.take (l.findIdx (· == c)) :: splitL c (l.drop (l.findIdx (· == c) + 1))
  | [], h => by simp at h
  | b :: l, h => by
    rw [List.findIdx_cons] at h ⊢
    cases hb : b == c with
    | true => rw [splitL_cons_eq c b l hb]; rfl
    | false =>
      rw [hb] at h
      simp only [cond_false, List.length_cons] at h ⊢
      obtain ⟨p, ps, h1, h2⟩ := splitL_cons_ne c b l hb
      have ih := splitL_some c l (by omega)
      rw [ih] at h1
      cases h1
      rw [h2]
      rfl
theorem splitL_size (c : UInt8) : ∀ (l : List UInt8) (p : List UInt8), p ∈ splitL c l → p.length ≤ l.length
  | [], p, h => by simp [splitL] at h; subst h; exact Nat.le_refl _
  | b :: l, p, h => by
    cases hb : b == c with
    | true =>
      rw [splitL_cons_eq c b l hb] at h
      rcases List.mem_cons.1 h with h | h
      · subst h; simp
      · have := splitL_size c l p h
        simp only [List.length_cons]; omega
    | false =>
      obtain ⟨q, qs, h1, h2⟩ := splitL_cons_ne c b l hb
      rw [h2] at h
      rcases List.mem_cons.1 h with h | h
      · subst h
        have := splitL_size c l q (by rw [h1]; exact List.mem_cons_self)
        simp only [List.length_cons]; omega
      · have := splitL_size c l p (by rw [h1]; exact List.mem_cons_of_mem _ h)
        simp only [List.length_cons]; omega
theorem indexByte_at : ∀ (l : List UInt8) (c : UInt8), Lib.indexByte l c = if l.findIdx (· == c) < l.length then ((l.findIdx (· == c) : Nat) : Int) else -1
  | [], c => rfl
  | b :: l, c => by
    unfold Lib.indexByte
    rw [List.findIdx_cons, indexByte_at l c]
    cases h : b == c with
    | true => simp
    | false =>
      simp only [cond_false, List.length_cons]
      by_cases h2 : l.findIdx (· == c) < l.length
      · have e1 : (((List.findIdx (· == c) l : Nat) : Int) == -1) = false := by rw [beq_eq_false_iff_ne]; omega
        have e2 : List.findIdx (· == c) l + 1 < l.length + 1 := by omega
        simp only [if_pos h2, if_pos e2, e1, Bool.false_eq_true, if_false]
        omega
      · have e2 : ¬ List.findIdx (· == c) l + 1 < l.length + 1 := by omega
        simp only [if_neg h2, if_neg e2]
        rfl
theorem index_at (l : List UInt8) (c : UInt8) : Lib.index l [c] = if l.findIdx (· == c) < l.length then ((l.findIdx (· == c) : Nat) : Int) else -1 :=
  (Lib.index_one _ _).trans (indexByte_at l c)
end Go.Proofs.YtofegjgiocljlaaDoorH
end
section
namespace Go.Proofs.YtofegjgiocljlaaDoorH
open Go.RowKit Go.Shelf Go.Proofs.YtofegjgiocljlaaDoorW.PrintWords Go.Proofs.YtofegjgiocljlaaDoorW.PrintLast Go.Proofs.YtofegjgiocljlaaDoorW.PrintMore
attribute [local go_sem] Oper.semAt_some
def partsB (s : ByteArray) : List ByteArray := (splitL 44 s.data.toList).map fun l => ⟨l.toArray⟩
theorem partsB_none (s : ByteArray) (h : s.data.toList.findIdx (· == 44) = s.data.toList.length) : partsB s = [s] := by
  unfold partsB
  rw [splitL_none _ _ h]
  show [(⟨s.data.toList.toArray⟩ : ByteArray)] = [s]
  rw [show (⟨s.data.toList.toArray⟩ : ByteArray) = s from bytes_ext (by simp)]
theorem partsB_some (s : ByteArray) (k : Nat) (h : s.data.toList.findIdx (· == 44) = k) (hk : k < s.size) : partsB s = s.extract 0 k :: partsB (s.extract (k + 1) s.size) := by
  rw [size_eq_length] at hk
  have := splitL_some 44 s.data.toList (by rw [h]; exact hk)
  unfold partsB
  rw [this, List.map_cons, h, extract_from]
  congr 1
  exact bytes_ext (by rw [extract_to])
theorem partsB_size (s : ByteArray) : ∀ p ∈ partsB s, p.size ≤ s.size := by
  intro p hp
  obtain ⟨l, hl, rfl⟩ := List.mem_map.1 hp
  rw [size_eq_length s]
  exact splitL_size 44 _ l hl
def szAt (W : World) (b : Nat) : Nat := match W.cell? ⟨b, 0, none⟩ with | some (.string s) => s.size | _ => 0
theorem szAt_box {W : World} {b : Nat} {t : TypeId} {s : ByteArray} (h : Boxed W b t (.string s)) : szAt W b = s.size := by
  unfold szAt
  rw [h.cell]
theorem splitSeq_calls (s p : ByteArray) (k : Int) (w : World) :
    Calls Tryd.prog 76 #[.string s, .string p, .int .i64 k] w fun e w' => e = .returned (.func (.func 84) #[] #[.pointer (some ⟨w.heap.size + 1, 0, none⟩), .pointer (some ⟨w.heap.size, 0, none⟩), .pointer (some ⟨w.heap.size + 2, 0, none⟩)]) ∧
      w' = ((w.alloc (.cells #[.string s] 9)).alloc (.cells #[.string p] 9)).alloc (.cells #[.int .i64 k] 3) := by
  go_enter Tryd.func76, Tryd.ntmps76
  go_wp2
  go_ret
  exact ⟨rfl, rfl⟩
theorem SplitSeq_calls (s p : ByteArray) (w : World) :
    Calls Tryd.prog 65 #[.string s, .string p] w fun e w' => e = .returned (.func (.func 84) #[] #[.pointer (some ⟨w.heap.size + 1, 0, none⟩), .pointer (some ⟨w.heap.size, 0, none⟩), .pointer (some ⟨w.heap.size + 2, 0, none⟩)]) ∧
      w' = ((w.alloc (.cells #[.string s] 9)).alloc (.cells #[.string p] 9)).alloc (.cells #[.int .i64 0] 3) := by
  have H := Aside0.mk (splitSeq_calls s p 0 w)
  go_enter Tryd.func65, Tryd.ntmps65
  go_wp2_with fail
  refine H.out.mono ?_
  rintro e w' ⟨rfl, rfl⟩
  go_wp2
  go_ret
  exact ⟨rfl, rfl⟩
def Kz3 (n a b c : Nat) (k : Nat) : Prop := k < n ∨ k = a ∨ k = b ∨ k = c
set_option maxRecDepth 100000 in
set_option maxHeartbeats 2000000 in
theorem split_own (n : Nat) (hn : 1 ≤ n) (Bp Bs Bk : Nat) (s : ByteArray) (hs : s.size < 4294967281) (w : World) (hG : TabOk w) (W0 : World) (hw0 : Lies (fun k => k < w.heap.size) w W0)
    (hp0 : Boxed W0 Bp 9 (.string ⟨#[44]⟩)) (hs0 : Boxed W0 Bs 9 (.string s)) (hk0 : Boxed W0 Bk 3 (.int .i64 0)) (hne : Bp ≠ Bs) (hne2 : Bk ≠ Bs) (hBs : w.heap.size ≤ Bs) :
    SeqO Fence.wide n Tryd.prog 84 #[.pointer (some ⟨Bp, 0, none⟩), .pointer (some ⟨Bs, 0, none⟩), .pointer (some ⟨Bk, 0, none⟩)] (fun x : ByteArray => #[.string x]) (Kz3 w.heap.size Bp Bs Bk) (fun k => k = Bs) (fun ys => ys = partsB s) (fun pre => pre <+: partsB s) W0 := by
  intro l J Jx g0 W hW hJ hJx hg0 hY h0
  have hw1 : Lies (fun k => k < w.heap.size) w W := hw0.trans (Lies.below hW)
  have hp : Boxed W Bp 9 (.string ⟨#[44]⟩) := (hW.block _ hp0.lt).trans hp0
  have hsb : Boxed W Bs 9 (.string s) := (hW.block _ hs0.lt).trans hs0
  have hk : Boxed W Bk 3 (.int .i64 0) := (hW.block _ hk0.lt).trans hk0
  have l1 := hp.lt
  have l2 := hsb.lt
  have l3 := hk.lt
  have l4 := hw1.size
  clear hW hp0 hs0 hk0 hw0
  have hpc := hp.cell
  refine callsIn_of_wp Tryd.func84 rfl trivial ?_ rfl
  simp only [Tryd.ntmps84, List.size_toArray, List.length_cons, List.length_nil, Nat.reduceAdd, Nat.reduceSub, Array.replicate_succ, Array.replicate_zero, List.push_toArray, List.append_toArray, List.nil_append, List.cons_append]
  gi_wp2
  gi_loopw [7] (fun v7 wr => ∃ (r : ByteArray) (pre : List ByteArray) (g : Option Nat), r.size ≤ s.size ∧ Aside0 (partsB s = pre ++ partsB r) ∧ Aside0 (J pre g wr) ∧ Aside0 (∀ q, g = some q → ¬ Kz3 w.heap.size Bp Bs Bk q) ∧ Aside0 (Lies (fun k => (k < w.heap.size ∨ k = Bp) ∨ k = Bk) W wr) ∧ Aside0 (Boxed wr Bs 9 (.string r)))
    (fun _ wr => szAt wr Bs)
  case atStart => exact ⟨s, [], g0, Nat.le_refl _, ⟨rfl⟩, ⟨h0⟩, ⟨fun q e => (hg0 q e).1⟩, ⟨Lies.refl _ _⟩, ⟨hsb⟩⟩
  case round =>
    obtain ⟨r, pre, g, hrs, hE, hJs, hgq, hnx, hbx⟩ := hrel
    have hcp := (hnx.out.box (.inl (.inr rfl)) hp).cell
    have hck := (hnx.out.box (.inr rfl) hk).cell
    have hcs := hbx.out.cell
    obtain ⟨m, hm⟩ := (hG.lies hw1 (fun k hk => .inl (.inl hk)) hnx.out).mx
    have HC := Aside0.mk (Tryd.strings_Index r (⟨#[44]⟩ : ByteArray) m wr (by omega) hm)
    rw [show (⟨#[44]⟩ : ByteArray).data.toList = [44] from rfl, index_at] at HC
    obtain ⟨k, hkk⟩ : ∃ k, r.data.toList.findIdx (· == 44) = k := ⟨_, rfl⟩
    have hkle : k ≤ r.data.toList.length := by rw [← hkk]; exact List.findIdx_le_length
    rw [← size_eq_length] at hkle
    clear hm
    by_cases hlt : k < r.size
    · rw [hkk, ← size_eq_length, if_pos hlt] at HC
      have HP := Aside0.mk (partsB_some r k hkk hlt)
      clear hkk
      gi_wp2
      refine ⟨trivial, ?_⟩
      refine (callsIn_wide.2 HC.out).mono ?_
      rintro e w1 ⟨rfl, rfl⟩
      have HPP := Aside0.mk (show pre ++ [r.extract 0 k] <+: partsB s by rw [hE.out, HP.out]; exact ⟨_, by rw [List.append_assoc]; rfl⟩)
      obtain ⟨fn, tmps, assign, body, hy, hR⟩ := hY (n - 1) pre (r.extract 0 k) g w1 hJs.out HPP.out
      have HR := Aside0.mk hR
      clear hR HC
      gi_wp2
      refine HR.out.mono ?_
      rintro e W3 ⟨g', hsp, (⟨rfl, hJ3⟩ | ⟨rfl, hJx3⟩)⟩
      · have HJ3 := Aside0.mk hJ3
        have hlz : ∀ k, (((k < w.heap.size ∨ k = Bp) ∨ k = Bk) ∨ k = Bs) → k < w1.heap.size → (W.heap.size ≤ k ∨ Kz3 w.heap.size Bp Bs Bk k) ∧ some k ≠ g := fun k hk _ => by
          have hz : Kz3 w.heap.size Bp Bs Bk k := by
            unfold Kz3
            rcases hk with ((hk | hk) | hk) | hk
            · exact .inl hk
            · exact .inr (.inl hk)
            · exact .inr (.inr (.inr hk))
            · exact .inr (.inr (.inl hk))
          exact ⟨.inr hz, fun e => hgq.out k e.symm hz⟩
        have HL3 := Aside0.mk (hsp.lies hlz)
        have HG3 := Aside0.mk (hsp.not (Kz := Kz3 w.heap.size Bp Bs Bk) (fun k hk => by have := hnx.out.size; unfold Kz3 at hk; rcases hk with hk | hk | hk | hk <;> omega) hgq.out)
        have hb3 := HL3.out.box (.inr rfl) hbx.out
        have hl3 := HL3.out.imp (K' := fun k => (k < w.heap.size ∨ k = Bp) ∨ k = Bk) (fun k h => .inl h)
        have HX3 := Aside0.mk (hnx.out.trans hl3)
        have hcs3 := hb3.cell
        have hcf3 := hb3.frozen
        have hcp3 := (HX3.out.box (.inl (.inr rfl)) hp).cell
        have hz : (r.extract (k + 1) r.size).size = r.size - (k + 1) := by rw [size_eq_length, extract_from, List.length_drop, ← size_eq_length]
        have HB4 := Aside0.mk (hb3.set (.string (r.extract (k + 1) r.size)))
        have HJ4 := Aside0.mk (hJ _ _ _ _ _ HJ3.out (grownBy_setCell' W3 Bs (.string (r.extract (k + 1) r.size))) (fun q e => .inr (by cases e; rfl)))
        have HL4 := Aside0.mk (HX3.out.trans (Lies.grown (K := fun k => (k < w.heap.size ∨ k = Bp) ∨ k = Bk) (grownBy_setCell' W3 Bs (.string (r.extract (k + 1) r.size))) (fun q e h => by cases e; rcases h with (h | h) | h <;> omega)))
        have HZ := Aside0.mk (szAt_box hbx.out)
        have HZ4 := Aside0.mk (szAt_box HB4.out)
        clear hsp hJ3 hlz hb3 hl3
        gi_wp2
        go_roundw
        case rel => exact ⟨r.extract (k + 1) r.size, pre ++ [r.extract 0 k], g', by omega, ⟨by rw [hE.out, HP.out, List.append_assoc]; rfl⟩, HJ4, HG3, HL4, HB4⟩
        case measure => first | (rw [HZ.out, HZ4.out]; omega) | (simp only [HZ.out, HZ4.out]; omega)
      · gi_wp2
        refine bodyPost_ret (results_none rfl _ _ _) rfl ?_
        exact ⟨⟨_, rfl⟩, .inr ⟨_, g', HPP.out, hJx3⟩⟩
    · rw [hkk, ← size_eq_length, if_neg hlt] at HC
      have HP := Aside0.mk (partsB_none r (by rw [hkk, ← size_eq_length]; omega))
      clear hkk
      gi_wp2
      refine ⟨trivial, ?_⟩
      refine (callsIn_wide.2 HC.out).mono ?_
      rintro e w1 ⟨rfl, rfl⟩
      have HPP := Aside0.mk (show pre ++ [r] <+: partsB s by rw [hE.out, HP.out]; exact ⟨[], by rw [List.append_nil]⟩)
      have HE2 := Aside0.mk (show partsB s = pre ++ [r] by rw [hE.out, HP.out])
      obtain ⟨fn, tmps, assign, body, hy, hR⟩ := hY (n - 1) pre r g w1 hJs.out HPP.out
      have HR := Aside0.mk hR
      clear hR HC
      gi_wp2
      refine HR.out.mono ?_
      rintro e W3 ⟨g', hsp, (⟨rfl, hJ3⟩ | ⟨rfl, hJx3⟩)⟩
      · gi_wp2
        go_end0
        exact ⟨⟨_, rfl⟩, .inl ⟨_, g', rfl, by rw [HE2.out]; exact hJ3⟩⟩
      · gi_wp2
        go_end0
        exact ⟨⟨_, rfl⟩, .inr ⟨_, g', HPP.out, hJx3⟩⟩
end Go.Proofs.YtofegjgiocljlaaDoorH
end
section
namespace Go.Proofs.YtofegjgiocljlaaDoorH
open Go
theorem stepR_scope {P : Program} {b : Frame} {a : Act} {k : List Item} {cs : List Frame} {w : World} {c : Code} : step P (lone (b.atR a (.code (.scope c) :: k)) cs w) = .next (lone (b.atR a (.code c :: .inScope c :: k)) cs w) :=
  step_lone_go (by simp [stepG, stepG.exec, Frame.atR])
theorem stepR_inScope {P : Program} {b : Frame} {a : Act} {k : List Item} {cs : List Frame} {w : World} {c : Code} : step P (lone (b.atR a (.inScope c :: k)) cs w) = .next (lone (b.atR a k) cs w) :=
  step_lone_go (by simp [stepG, stepG.exec, Frame.atR])
theorem wpIn_scope_straight {F : Fence} {n : Nat} {P : Program} {Q : Exit → Act → World → Prop} {a : Act} {w : World} {c : Code} (h : c.wpIn F n P (Exit.noGoto Q) a w) : (Code.scope c).wpIn F n P Q a w := by
  intro b k cs hro hb hr
  have h0 : (lone (b.atR a (.code (.scope c) :: k)) cs w).fenced P F := fenced_calm hb hr rfl
  obtain ⟨e, a₁, w₁, hq, harr⟩ := h b (.inScope c :: k) cs hro hb hr
  cases e with
  | normal => exact ⟨.normal, a₁, w₁, hq, .head h0 stepR_scope (StepsIn.trans harr (.one (fenced_calm hb hr rfl) stepR_inScope))⟩
  | exit id =>
    have hx : exitTo id (.inScope c :: k) = exitTo id k := by simp [exitTo]
    exact ⟨.exit id, a₁, w₁, hq, fun k' hk => .head h0 stepR_scope (harr.1 k' (by rw [hx]; exact hk)),
      fun hr' hk => let ⟨k₁, h1, h2⟩ := harr.2 hr' (by rw [hx]; exact hk); ⟨k₁, h1, .head h0 stepR_scope h2⟩⟩
  | goto l => exact hq.elim
  | ret => exact ⟨_, a₁, w₁, hq, .of_steps (.one h0 stepR_scope) (show ArrivesIn _ _ _ _ k _ _ _ _ from harr)⟩
  | panic ch => exact ⟨_, a₁, w₁, hq, .of_steps (.one h0 stepR_scope) (show ArrivesIn _ _ _ _ k _ _ _ _ from harr)⟩
  | outgrown => exact ⟨_, a₁, w₁, hq, .of_steps (.one h0 stepR_scope) (show ArrivesIn _ _ _ _ k _ _ _ _ from harr)⟩
end Go.Proofs.YtofegjgiocljlaaDoorH
end
section
namespace Go.Proofs.YtofegjgiocljlaaDoorH
open Go.RowKit Go.Proofs.YtofegjgiocljlaaDoorW.PrintWords Go.Proofs.YtofegjgiocljlaaDoorW.PrintLast Go.Proofs.YtofegjgiocljlaaDoorW.PrintMore
theorem take_one {α : Type} (l : List α) (d : α) (k : Nat) (h : k < l.length) : l.take (k + 1) = l.take k ++ [l.getD k d] := by
  rw [List.take_succ_eq_append_getElem h]
  simp [List.getD_eq_getElem?_getD, h]
theorem mem_getD {α : Type} (l : List α) (d : α) (k : Nat) (h : k < l.length) : l.getD k d ∈ l := by
  rw [List.getD_eq_getElem?_getD, List.getElem?_eq_getElem h]
  exact List.getElem_mem h
theorem at_str {w : World} {A : Option Addr} {n : Nat} {xs : List ByteArray} (h : Kd.C Kd.string w A n xs) (k : Nat) (hk : k < n) : ∃ ad, A = some ad ∧ w.cell? (ad.add k) = some (.string (xs.getD k ByteArray.empty)) := by
  obtain ⟨ad, c, e, _, hK, hc0⟩ := Kd.C_get h ByteArray.empty (k : Int) (by omega) (by omega)
  have hc : ∀ j u, c[j]? = some u → w.cell? (ad.add ((k : Int).toNat * 1 + j)) = some u := hc0
  rw [Int.toNat_natCast] at hK hc
  have hK : c = [.string (xs.getD k ByteArray.empty)] := hK
  subst hK
  refine ⟨ad, e, ?_⟩
  have := hc 0 _ rfl
  rwa [Nat.mul_one, Nat.add_zero] at this
end Go.Proofs.YtofegjgiocljlaaDoorH
end
section
namespace Go.Proofs.YtofegjgiocljlaaDoorH
open Go.RowKit Go.Shelf Go.Proofs.YtofegjgiocljlaaDoorW.PrintWords Go.Proofs.YtofegjgiocljlaaDoorW.PrintLast Go.Proofs.YtofegjgiocljlaaDoorW.PrintMore
attribute [local go_sem] Oper.semAt_some
def itemsP (s : ByteArray) : List ByteArray := ((partsB s).map trimS).filter fun x => decide (x.size ≠ 0)
def partItem (p : ByteArray) : List ByteArray := if (trimS p).size = 0 then [] else [trimS p]
theorem itemsP_flat (s : ByteArray) : itemsP s = (partsB s).flatMap partItem := by
  unfold itemsP
  induction partsB s with
  | nil => rfl
  | cons p l ih =>
    rw [List.map_cons, List.flatMap_cons, partItem]
    by_cases h : (trimS p).size = 0
    · rw [if_pos h, List.filter_cons_of_neg (by simpa using h), ih]; rfl
    · rw [if_neg h, List.filter_cons_of_pos (by simpa using h), ih]; rfl
def itemsF : Nat → List ByteArray → List (Nat × ByteArray)
  | _, [] => []
  | i, v :: l => ((itemsP v).map fun x => (i, x)) ++ itemsF (i + 1) l
theorem itemsF_take : ∀ (l : List ByteArray) (i k : Nat), k < l.length → itemsF i (l.take (k + 1)) = itemsF i (l.take k) ++ ((itemsP (l.getD k ByteArray.empty)).map fun x => (i + k, x))
  | [], i, k, h => absurd h (Nat.not_lt_zero _)
  | v :: l, i, 0, _ => by simp [itemsF]
  | v :: l, i, k + 1, h => by
    have ih := itemsF_take l (i + 1) k (by simpa using h)
    rw [List.take_succ_cons, itemsF, ih, List.take_succ_cons, itemsF, List.append_assoc, show i + 1 + k = i + (k + 1) by omega]
    rfl
theorem flat_prefix {a b : List ByteArray} (h : a <+: b) : a.flatMap partItem <+: b.flatMap partItem := by
  obtain ⟨r, rfl⟩ := h
  exact ⟨r.flatMap partItem, by rw [List.flatMap_append]⟩
theorem itemsF_drop : ∀ (l : List ByteArray) (i k : Nat), k ≤ l.length → itemsF i l = itemsF i (l.take k) ++ itemsF (i + k) (l.drop k)
  | l, i, 0, _ => by simp [itemsF]
  | [], i, k + 1, h => absurd h (by simp)
  | v :: l, i, k + 1, h => by
    have ih := itemsF_drop l (i + 1) k (by simpa using h)
    rw [itemsF, ih, List.take_succ_cons, itemsF, List.append_assoc, List.drop_succ_cons, show i + 1 + k = i + (k + 1) by omega]
def soFar (xs : List ByteArray) (k : Nat) (pre : List ByteArray) : List (Nat × ByteArray) := itemsF 0 (xs.take k) ++ ((pre.flatMap partItem).map fun y => (k, y))
theorem soFar_prefix (xs : List ByteArray) (k : Nat) (hk : k < xs.length) (x : ByteArray) (hT : itemsF 0 (xs.take (k + 1)) = itemsF 0 (xs.take k) ++ ((itemsP x).map fun y => (0 + k, y))) (pre : List ByteArray) (h : pre <+: partsB x) : soFar xs k pre <+: itemsF 0 xs := by
  obtain ⟨r, hr⟩ := flat_prefix h
  rw [itemsF_drop xs 0 (k + 1) (by omega), hT, itemsP_flat, ← hr, List.map_append]
  refine ⟨(r.map fun y => (0 + k, y)) ++ itemsF (0 + (k + 1)) (xs.drop (k + 1)), ?_⟩
  unfold soFar
  simp only [Nat.zero_add, List.append_assoc]
theorem soFar_snoc_nil (xs : List ByteArray) (k : Nat) (pre : List ByteArray) (p : ByteArray) (h : (trimS p).size = 0) : soFar xs k (pre ++ [p]) = soFar xs k pre := by
  unfold soFar
  rw [List.flatMap_append, List.flatMap_singleton, partItem, if_pos h, List.append_nil]
theorem soFar_snoc (xs : List ByteArray) (k : Nat) (pre : List ByteArray) (p : ByteArray) (h : ¬ (trimS p).size = 0) : soFar xs k (pre ++ [p]) = soFar xs k pre ++ [(k, trimS p)] := by
  unfold soFar
  rw [List.flatMap_append, List.flatMap_singleton, partItem, if_neg h, List.map_append, List.append_assoc]
  rfl
theorem soFar_whole (xs : List ByteArray) (k : Nat) (x : ByteArray) (hT : itemsF 0 (xs.take (k + 1)) = itemsF 0 (xs.take k) ++ ((itemsP x).map fun y => (0 + k, y))) : soFar xs k (partsB x) = itemsF 0 (xs.take (k + 1)) := by
  unfold soFar
  rw [hT, itemsP_flat, Nat.zero_add]
def KrI (n Bv Y r : Nat) (g : Option Nat) (j : Nat) : Prop := (j < n ∨ j = Bv) ∨ (Y ≤ j ∧ j ≤ r ∧ some j ≠ g)
def gF (g : Option Nat) (m : Nat) (g' : Option Nat) : Prop := ∀ q, g' = some q → some q = g ∨ m ≤ q
theorem gF.step {g g' g'' : Option Nat} {m : Nat} {K : Nat → Prop} {A B : World} (h : gF g m g') (hs : Spares K g' g'' A B) (hm : m ≤ A.heap.size) : gF g m g'' := by
  intro q e
  rcases hs.own with e' | ⟨b, e', hb, _⟩
  · exact h q (e' ▸ e)
  · rw [e] at e'; cases e'; exact .inr (by omega)
def encI (x : Nat × ByteArray) : Array Value := #[.int .i64 (x.1 : Int), .string x.2]
theorem items_calls (A0 : Option Addr) (n c : Nat) (w : World) :
    Calls Tryd.prog 42 #[.slice A0 n c] w fun e w' => e = .returned (.func (.func 64) #[] #[.pointer (some ⟨w.heap.size, 0, none⟩)]) ∧ w' = w.alloc (.cells #[.slice A0 n c] 40) := by
  go_enter Tryd.func42, Tryd.ntmps42
  go_wp2
  go_ret
  exact ⟨rfl, rfl⟩
def Marked (B : Nat) (ds : List Deferred) (g : Option Nat) (W : World) : Prop :=
  ∃ Ds : List Nat, ds = Ds.map (fun D => ({ target := .collected D, args := #[] } : Deferred)) ∧ Ds.Nodup ∧ ∀ D ∈ Ds, W.heap[D]? = some (.deferred (some [])) ∧ B ≤ D ∧ some D ≠ g
theorem Marked.nil (B : Nat) (g : Option Nat) (W : World) : Marked B [] g W := ⟨[], rfl, List.nodup_nil, fun _ h => absurd h List.not_mem_nil⟩
theorem Marked.lies {B : Nat} {ds : List Deferred} {g g' : Option Nat} {A C : World} (h : Marked B ds g A) (hs : Lies (fun k => B ≤ k ∧ k < A.heap.size ∧ some k ≠ g) A C) (hg : ∀ q, g' = some q → some q = g ∨ A.heap.size ≤ q) : Marked B ds g' C := by
  obtain ⟨Ds, e, hn, hD⟩ := h
  refine ⟨Ds, e, hn, fun D hm => ?_⟩
  obtain ⟨h1, h2, h3⟩ := hD D hm
  have hlt := (Array.getElem?_eq_some_iff.1 h1).1
  refine ⟨(hs.same D ⟨h2, hlt, h3⟩ hlt).trans h1, h2, fun e => ?_⟩
  rcases hg D e.symm with hg | hb
  · exact h3 hg
  · omega
theorem Marked.cons {B D : Nat} {ds : List Deferred} {g : Option Nat} {W : World} (h : Marked B ds g W) (hD : W.heap[D]? = some (.deferred (some []))) (hB : B ≤ D) (hg : some D ≠ g) (hnew : ∀ E, ({ target := .collected E, args := #[] } : Deferred) ∈ ds → E < D) :
    Marked B ({ target := .collected D, args := #[] } :: ds) g W := by
  obtain ⟨Ds, rfl, hn, hDs⟩ := h
  refine ⟨D :: Ds, rfl, List.nodup_cons.2 ⟨fun hm => ?_, hn⟩, fun E hE => ?_⟩
  · have := hnew D (List.mem_map.2 ⟨D, hm, rfl⟩)
    omega
  · rcases List.mem_cons.1 hE with rfl | hE
    · exact ⟨hD, hB, hg⟩
    · exact hDs E hE
theorem Marked.lt {B : Nat} {ds : List Deferred} {g : Option Nat} {W : World} (h : Marked B ds g W) : ∀ E, ({ target := .collected E, args := #[] } : Deferred) ∈ ds → E < W.heap.size := by
  obtain ⟨Ds, rfl, hn, hDs⟩ := h
  intro E hE
  obtain ⟨D, hD, he⟩ := List.mem_map.1 hE
  have : D = E := by injection he with h1 h2; injection h1
  subst this
  exact (Array.getElem?_eq_some_iff.1 (hDs D hD).1).1
theorem leave_marks {F : Fence} {n : Nat} {P : Program} {fn : Func} {tmps : Array Value} {R : Ending → World → Prop} {B : Nat} {g : Option Nat} (hres : ∀ (tmps : Array Value) (w : World), (results fn tmps).run P w = .ok (.tuple #[]) w)
    (C : World → Prop) (hC : ∀ W D, C W → B ≤ D → some D ≠ g → C (W.putObj D (.deferred none))) (hR : ∀ W, C W → R (.returned (.tuple #[])) W) : ∀ (ds : List Deferred) (W : World), C W → Marked B ds g W → LeavesInM F n P fn tmps R ds .returning W
  | [], W, hc, _ => ⟨_, hres tmps W, hR W hc⟩
  | d :: ds, W, hc, hm => by
    obtain ⟨Ds, e, hn, hD⟩ := hm
    cases Ds with
    | nil => cases e
    | cons D Ds =>
      rw [List.map_cons] at e
      injection e with e1 e2
      subst e1
      obtain ⟨h1, h2, h3⟩ := hD D List.mem_cons_self
      refine ⟨by simp, .inl ⟨D, _, rfl, run_takeDeferred h1, leave_marks hres C hC hR ds _ (hC W D hc h2 h3) ⟨Ds, e2, (List.nodup_cons.1 hn).2, fun E hE => ?_⟩⟩⟩
      obtain ⟨q1, q2, q3⟩ := hD E (List.mem_cons_of_mem _ hE)
      exact ⟨(World.putObj_heap_other (fun e => (List.nodup_cons.1 hn).1 (by subst e; exact hE))).trans q1, q2, q3⟩
set_option maxRecDepth 100000 in
set_option maxHeartbeats 2000000 in
theorem items_own (n : Nat) (hn : 5 ≤ n) (Bv : Nat) (A0 : Option Addr) (c0 : Nat) (xs : List ByteArray) (hxs : ∀ x ∈ xs, x.size ≤ 1000000) (hc0 : xs.length ≤ c0) (hlen : xs.length ≤ 1000000000) (w : World) (hG : TabOk w) (hr : Kd.C Kd.string w A0 xs.length xs)
    (W0 : World) (hw0 : Lies (fun k => k < w.heap.size) w W0) (hv0 : Boxed W0 Bv 40 (.slice A0 xs.length c0)) (hBv : w.heap.size ≤ Bv) :
    SeqO Fence.wide n Tryd.prog 64 #[.pointer (some ⟨Bv, 0, none⟩)] encI (fun k => k < w.heap.size ∨ k = Bv) (fun _ => False) (fun ys => ys = itemsF 0 xs) (fun pre => pre <+: itemsF 0 xs) W0 := by
  intro l J Jx g0 W hW hJ hJx hg0 hY h0
  have h1 : 1 ≤ n := by omega
  have hw1 : Lies (fun k => k < w.heap.size) w W := hw0.trans (Lies.below hW)
  have hv : Boxed W Bv 40 (.slice A0 xs.length c0) := (hW.block _ hv0.lt).trans hv0
  have l1 := hv.lt
  have l4 := hw1.size
  clear hW hv0 hw0
  have hvc := (hv.alloc (.cells #[.func (.yield l) #[] #[]] 89)).cell
  refine callsIn_of_wp_marks Tryd.func64 rfl trivial ?_ rfl
  simp only [Tryd.ntmps64, List.size_toArray, List.length_cons, List.length_nil, Nat.reduceAdd, Nat.reduceSub, Array.replicate_succ, Array.replicate_zero, List.push_toArray, List.append_toArray, List.nil_append, List.cons_append]
  gi_wp2
  refine wpIn_scope_straight ?_
  gi_wp2
  apply wpIn_label
  gi_wp2
  refine wpIn_loop (fun a W' => ∃ (k : Nat) (ds : List Deferred) (g : Option Nat) (u3 u4 u5 u6 u10 u11 u12 u13 u14 u15 u16 u17 u18 u19 u20 u21 u22 u23 u24 u25 u26 u27 u28 : Value), k ≤ xs.length ∧ a = { tmps := #[.func (.yield l) #[] #[], .pointer (some ⟨Bv, 0, none⟩), .pointer (some ⟨W.heap.size, 0, none⟩), u3, u4, u5, u6, .slice A0 xs.length c0, .int .i64 (xs.length : Int), .int .i64 (k : Int), u10, u11, u12, u13, u14, u15, u16, u17, u18, u19, u20, u21, u22, u23, u24, u25, u26, u27, u28], defers := ds } ∧ Aside0 (Marked W.heap.size ds g W') ∧ Aside0 (J (itemsF 0 (xs.take k)) g W') ∧
      Aside0 (∀ q, g = some q → (¬ (q < w.heap.size ∨ q = Bv) ∧ q ≠ W.heap.size) ∧ q < W'.heap.size) ∧ Aside0 (Lies (fun j => (j < w.heap.size ∨ j = Bv) ∨ j = W.heap.size) (W.alloc (.cells #[.func (.yield l) #[] #[]] 89)) W'))
    (fun a _ => xs.length - (intOf (a.tmps.getD 9 undef)).toNat) ?start ?round
  case start =>
    exact ⟨0, [], g0, undef, undef, undef, undef, undef, undef, undef, undef, undef, undef, undef, undef, undef, undef, undef, undef, undef, undef, undef, undef, undef, undef, undef, Nat.zero_le _, rfl, ⟨Marked.nil _ _ _⟩, ⟨hJ.alloc _ h0⟩,
      ⟨fun q e => ⟨⟨(hg0 q e).1, by have := (hg0 q e).2; omega⟩, by have := (hg0 q e).2; rw [World.size_alloc]; omega⟩⟩, ⟨Lies.refl _ _⟩⟩
  case round =>
    rintro a wr ⟨k, ds, g, u3, u4, u5, u6, u10, u11, u12, u13, u14, u15, u16, u17, u18, u19, u20, u21, u22, u23, u24, u25, u26, u27, u28, hk, rfl, hM, hJs, hgq, hnx⟩
    have hsz := hnx.out.size
    rw [World.size_alloc] at hsz
    have hYb := Aside0.mk (hnx.out.box (.inr rfl) (Boxed.new W 89 (.func (.yield l) #[] #[])))
    by_cases hlt : k < xs.length
    · obtain ⟨ad, e, hx0⟩ := at_str hr k hlt
      subst e
      have hadb : (ad.add k).block < w.heap.size := World.block_lt_of_cell? w _ hx0
      have hx1 := hw1.cell (p := ad.add k) hadb hx0
      have hx2 := hnx.out.cell (p := ad.add k) (.inl (.inl hadb)) ((Lies.below (K := fun j => j < w.heap.size) (below_alloc (Below.refl _ W) (.cells #[.func (.yield l) #[] #[]] 89))).cell (p := ad.add k) hadb hx1)
      have HT := Aside0.mk (itemsF_take xs 0 k hlt)
      have hxz := hxs _ (mem_getD xs ByteArray.empty k hlt)
      generalize xs.getD k ByteArray.empty = x at *
      have HC := Aside0.mk (SplitSeq_calls x ⟨#[44]⟩ (wr.alloc (.cells #[.int .i64 (k : Int)] 3)))
      clear hx0 hx1
      gi_wp2
      refine ⟨trivial, ?_⟩
      refine (callsIn_wide.2 HC.out).mono ?_
      rintro e w1 ⟨rfl, rfl⟩
      clear HC
      gi_wp2
      generalize hw4 : (((wr.alloc (.cells #[.int .i64 (k : Int)] 3)).alloc (.cells #[.string x] 9)).alloc (.cells #[.string ⟨#[44]⟩] 9)).alloc (.cells #[.int .i64 0] 3) = w4
      have s4 : w4.heap.size = wr.heap.size + 4 := by rw [← hw4]; simp only [World.size_alloc]
      have HW4 := Aside0.mk (show Below wr.heap.size wr w4 by rw [← hw4]; exact below_alloc (below_alloc (below_alloc (below_alloc (Below.refl _ _) _) _) _) _)
      have HBi := Aside0.mk (show Boxed w4 wr.heap.size 3 (.int .i64 (k : Int)) by rw [← hw4]; exact (((Boxed.new wr _ _).alloc _).alloc _).alloc _)
      have HBs := Aside0.mk (show Boxed w4 (wr.heap.size + 1) 9 (.string x) by
        have := Boxed.new (wr.alloc (.cells #[.int .i64 (k : Int)] 3)) 9 (.string x)
        rw [World.size_alloc] at this
        rw [← hw4]; exact (this.alloc _).alloc _)
      have HBp := Aside0.mk (show Boxed w4 (wr.heap.size + 1 + 1) 9 (.string ⟨#[44]⟩) by
        have := Boxed.new ((wr.alloc (.cells #[.int .i64 (k : Int)] 3)).alloc (.cells #[.string x] 9)) 9 (.string ⟨#[44]⟩)
        rw [World.size_alloc, World.size_alloc] at this
        rw [← hw4]; exact this.alloc _)
      have HBk := Aside0.mk (show Boxed w4 (wr.heap.size + 1 + 2) 3 (.int .i64 0) by
        have := Boxed.new (((wr.alloc (.cells #[.int .i64 (k : Int)] 3)).alloc (.cells #[.string x] 9)).alloc (.cells #[.string ⟨#[44]⟩] 9)) 3 (.int .i64 0)
        rw [World.size_alloc, World.size_alloc, World.size_alloc] at this
        rw [← hw4]; exact this)
      clear hw4
      have HJ4 := Aside0.mk (show J (soFar xs k []) g w4 by unfold soFar; rw [List.flatMap_nil, List.map_nil, List.append_nil]; exact hJ.step hJs.out (grown_below HW4.out))
      have HGL := Aside0.mk (show ∀ q, g = some q → q < wr.heap.size from fun q e => (hgq.out q e).2)
      have HLw := Aside0.mk (show Lies (fun j => j < w.heap.size) w w4 from hw1.trans ((Lies.below (K := fun j => j < w.heap.size) (below_alloc (Below.refl _ W) (.cells #[.func (.yield l) #[] #[]] 89))).trans ((hnx.out.imp (fun j h => .inl (.inl h))).trans (Lies.below HW4.out))))
      have HTW := Aside0.mk (show ∀ W', Lies (KrI w.heap.size Bv W.heap.size wr.heap.size g) w4 W' → TabOk W' from fun W' h => hG.lies HLw.out (fun j h => .inl (.inl h)) h)
      have HSQ := Aside0.mk (split_own (n - 1) (by omega) (wr.heap.size + 1 + 1) (wr.heap.size + 1) (wr.heap.size + 1 + 2) x (by omega) w hG w4 HLw.out HBp.out HBs.out HBk.out (by omega) (by omega) (by omega))
      have HAb : ∀ (T : List (Nat × ByteArray) → Option Nat → World → Prop), Abd (fun _ => False) W.heap.size T → Abd (fun j => j = wr.heap.size + 1) w4.heap.size (fun (pre : List ByteArray) g' W' => T (soFar xs k pre) g' W' ∧ gF g (wr.heap.size + 6) g' ∧ (∀ q, g' = some q → q < W'.heap.size) ∧ Lies (KrI w.heap.size Bv W.heap.size wr.heap.size g) w4 W') := by
        rintro T hT pre g' A C row ⟨hj, hgf, hlt', hl⟩ hgr hrow
        refine ⟨hT _ g' A C row hj hgr (fun r e => .inl ?_), hgf, fun q e => Nat.lt_of_lt_of_le (hlt' q e) hgr.size, hl.trans (Lies.grown hgr (fun r e hk => ?_))⟩
        · rcases hrow r e with ⟨h1, h2⟩ | h
          · exact ⟨by omega, h2⟩
          · refine ⟨by omega, fun e2 => ?_⟩
            rcases hgf r e2.symm with e3 | h3
            · have := HGL.out r e3.symm
              omega
            · omega
        · have : w4.heap.size ≤ r ∨ r = wr.heap.size + 1 := (hrow r e).imp (fun h => h.1) id
          rcases hk with (hk | hk) | hk <;> omega
      refine wpIn_range_own (F := Fence.wide) rfl rfl h1 (gf := 84) (lb := #[.pointer (some ⟨wr.heap.size + 1 + 1, 0, none⟩), .pointer (some ⟨wr.heap.size + 1, 0, none⟩), .pointer (some ⟨wr.heap.size + 1 + 2, 0, none⟩)]) rfl trivial (enters_of Tryd.func84 (by kernel_rfl) rfl) HSQ.out (Below.refl _ _)
        (fun r h => by omega) (fun r h => by unfold Kz3 at h; omega) (fun _ => rfl) g (fun q e => ⟨fun h => by have := hgq.out q e; unfold Kz3 at h; rcases h with h | h | h | h; exact this.1.1 (.inl h); all_goals omega, by have := HGL.out q e; omega⟩)
        (fun pre g' W' => J (soFar xs k pre) g' W' ∧ gF g (wr.heap.size + 6) g' ∧ (∀ q, g' = some q → q < W'.heap.size) ∧ Lies (KrI w.heap.size Bv W.heap.size wr.heap.size g) w4 W')
        (fun c pre g' W' => (Jx (soFar xs k pre) g' W' ∧ gF g (wr.heap.size + 6) g' ∧ (∀ q, g' = some q → q < W'.heap.size) ∧ Lies (KrI w.heap.size Bv W.heap.size wr.heap.size g) w4 W') ∧ c = .exit 0)
        (HAb J hJ) (fun c => Abd.and (HAb Jx hJx) (Abd.pure (β := List ByteArray) (fun _ _ => c = .exit 0)))
        ⟨HJ4.out, fun q e => .inl e.symm, fun q e => by have := HGL.out q e; omega, Lies.refl _ _⟩
        (fun pre g' W' q h e => by rcases h.2.1 q e with e2 | h2; have := HGL.out q e2.symm; omega; omega) (fun c pre g' W' q h e => by rcases h.1.2.1 q e with e2 | h2; have := HGL.out q e2.symm; omega; omega)
        (fun p a' _ => a' = { tmps := #[.func (.yield l) #[] #[], .pointer (some ⟨Bv, 0, none⟩), .pointer (some ⟨W.heap.size, 0, none⟩), .pointer (some ⟨wr.heap.size, 0, none⟩), .string x, .string p, u6, .slice (some ad) xs.length c0, .int .i64 (xs.length : Int), .int .i64 (k : Int), .bool true, .int .i64 (k : Int), .pointer (some (ad.add k)), .string x, .string x, .func (.func 84) #[] #[.pointer (some ⟨wr.heap.size + 1 + 1, 0, none⟩), .pointer (some ⟨wr.heap.size + 1, 0, none⟩), .pointer (some ⟨wr.heap.size + 1 + 2, 0, none⟩)], .string p, u17, u18, u19, u20, u21, u22, u23, u24, u25, u26, u27, u28], defers := [] }) (fun p a' _ _ _ _ _ h _ _ => h) ?assign ?body ?done ?stop
      case assign =>
        intro l' pre p g' W' K hI hK
        gi_wp2
        exact hK _ _ (Spares.refl _ _ _) hI rfl
      case body =>
        rintro l' pre p g' a' W' hW2 ⟨hj, hgf, hlt', hl⟩ rfl hsp
        have hpz : p.size ≤ x.size := partsB_size x p (hsp.subset (List.mem_append_right _ List.mem_cons_self))
        have HSP := Aside0.mk (soFar_prefix xs k hlt x HT.out _ hsp)
        have HC := Aside0.mk (octet_Trim.calls p (trimS p) W' (HTW.out W' hl) (by unfold octet_Trim.f; rw [if_pos (by omega)]))
        have HL := Aside0.mk hl
        have HJJ := Aside0.mk hj
        have HGF := Aside0.mk hgf
        have HLT := Aside0.mk hlt'
        clear hl hj hgf hlt' hsp
        obtain ⟨y, hy⟩ : ∃ y, trimS p = y := ⟨_, rfl⟩
        have HN := Aside0.mk (soFar_snoc_nil xs k pre p)
        have HS := Aside0.mk (soFar_snoc xs k pre p)
        rw [hy] at HC HN HS
        clear hy
        gi_wp2
        refine ⟨trivial, (fun _ => by omega), ?_⟩
        refine (CallsIn.inRound l' (callsIn_wide.2 HC.out)).mono ?_
        rintro e w5 ⟨rfl, b5⟩
        have HB5 := Aside0.mk b5
        have HL5 := Aside0.mk (HL.out.trans (Lies.below b5))
        have HJ5 := Aside0.mk (hJ.step HJJ.out (grown_below b5))
        have hz5 : wr.heap.size + 6 ≤ w5.heap.size := by have := b5.size; omega
        clear b5 HC
        by_cases h0 : y.size = 0
        · obtain rfl : y = ⟨#[]⟩ := ByteArray.ext (Array.eq_empty_of_size_eq_zero h0)
          gi_wp2
          refine ⟨fun _ h => (by cases h), ?_⟩
          gi_wp2
          exact ⟨g', Spares.below HB5.out, by rw [HN.out h0]; exact HJ5.out, HGF.out, fun q e => Nat.lt_of_lt_of_le (HLT.out q e) HB5.out.size, HL5.out⟩
        · have hne1 : (y.toList == ([] : List UInt8)) = false := by
            rw [ByteArray.toList_eq, beq_eq_false_iff_ne]
            intro e
            apply h0
            rw [size_eq_length, e]; rfl
          have hne2 : (y.toList = ([] : List UInt8)) = False := by simpa using hne1
          have hne3 : (y = (⟨#[]⟩ : ByteArray)) = False := by
            refine eq_false ?_
            rintro rfl
            exact h0 rfl
          rw [HS.out h0] at HSP
          obtain ⟨fn, tmps, assign, body, hy, hR⟩ := hY (n - 1 - 1 - 1) (soFar xs k pre) (k, y) g' w5 HJ5.out HSP.out
          have HR := Aside0.mk hR
          dsimp only [encI] at hy
          have hYc := ((HL5.out.imp (K' := fun j => j = W.heap.size) (fun j h => by subst h; exact .inr ⟨Nat.le_refl _, by omega, fun e => (hgq.out _ e.symm).1.2 rfl⟩)).box rfl ((Lies.below (K := fun j => j = W.heap.size) HW4.out).box rfl hYb.out)).cell
          have hic := (HL5.out.box (b := wr.heap.size) (.inr ⟨by omega, Nat.le_refl _, fun e => by have := HGL.out _ e.symm; omega⟩) HBi.out).cell
          clear hR
          gi_wp2
          refine ⟨(fun _ => by omega), ?_⟩
          refine RoundIn.mono (F := Fence.wide.inRound l') HR.out ?_
          rintro e W3 ⟨g3, hsp3, hJJ3⟩
          have HSP3 := Aside0.mk ((Spares.below (K := fun j => w4.heap.size ≤ j ∨ Kz3 w.heap.size (wr.heap.size + 1 + 1) (wr.heap.size + 1) (wr.heap.size + 1 + 2) j) (g := g') HB5.out).trans (hsp3.imp (fun j h _ => by
            rcases h with h | h
            · exact .inl (by omega)
            · unfold Kz3 at h
              rcases h with h | h | h | h
              · exact .inr (.inl h)
              · exact .inl (by omega)
              · exact .inl (by omega)
              · exact .inl (by omega))))
          have HL3 := Aside0.mk (HL5.out.trans (hsp3.lies (K' := KrI w.heap.size Bv W.heap.size wr.heap.size g) (fun j h _ => by
            refine ⟨?_, fun e => ?_⟩
            · rcases h with h | h
              · exact .inr h
              · exact .inl h.1
            · rcases HGF.out j e.symm with e2 | h2
              · rcases h with h | h
                · exact (hgq.out j e2.symm).1.1 h
                · exact h.2.2 e2
              · rcases h with (h | h) | h <;> omega)))
          have HG3 := Aside0.mk (HGF.out.step (A := w5) hsp3 hz5)
          have HT3 := Aside0.mk (hsp3.lt (fun q e => Nat.lt_of_lt_of_le (HLT.out q e) HB5.out.size))
          clear hsp3
          rcases hJJ3 with ⟨rfl, hJ3⟩ | ⟨rfl, hJx3⟩
          · gi_wp2
            exact ⟨g3, HSP3.out, by rw [HS.out h0]; exact hJ3, HG3.out, HT3.out, HL3.out⟩
          · gi_wp2
            exact ⟨g3, HSP3.out, ⟨by rw [HS.out h0]; exact hJx3, HG3.out, HT3.out, HL3.out⟩, rfl⟩
      case done =>
        rintro D ys g' W' hD rfl ⟨hj, hgf, hlt', hl⟩ hK
        rw [soFar_whole xs k x HT.out] at hj
        have HM2 := Aside0.mk (show Marked W.heap.size ({ target := .collected D, args := #[] } :: ds) g' W' from
          (hM.out.lies (g' := g') ((Lies.below HW4.out).trans (hl.imp (fun j h => .inr ⟨h.1, Nat.le_of_lt h.2.1, h.2.2⟩))) (fun q e => (hgf q e).imp id (fun h => by omega))).cons hK (by omega) (fun e => by rcases hgf D e.symm with e2 | h2; have := HGL.out D e2.symm; omega; omega) (fun E hE => by have := hM.out.lt E hE; omega))
        have HJ2 := Aside0.mk hj
        have HQ2 := Aside0.mk (show ∀ q, g' = some q → (¬ (q < w.heap.size ∨ q = Bv) ∧ q ≠ W.heap.size) ∧ q < W'.heap.size from fun q e => by
          refine ⟨?_, hlt' q e⟩
          rcases hgf q e with e2 | h2
          · exact (hgq.out q e2.symm).1
          · exact ⟨by omega, by omega⟩)
        have HN2 := Aside0.mk (hnx.out.trans ((Lies.below (K := fun j => (j < w.heap.size ∨ j = Bv) ∨ j = W.heap.size) HW4.out).trans (hl.imp (fun j h => by
          rcases h with h | h
          · exact .inl h
          · subst h
            exact .inr ⟨Nat.le_refl _, by omega, fun e => (hgq.out _ e.symm).1.2 rfl⟩))))
        clear hj hgf hlt' hl hK
        gi_wp2
        refine ⟨⟨k + 1, _, g', _, _, _, _, _, _, _, _, _, _, _, _, _, _, _, _, _, _, _, _, _, _, _, hlt, rfl, HM2, HJ2, HQ2, HN2⟩, ?_⟩
        simp [intOf]
        omega
      case stop =>
        rintro D c pre g' W' hD hsp ⟨⟨hj, hgf, hlt', hl⟩, rfl⟩ hK
        have HM2 := Aside0.mk (show Marked W.heap.size ({ target := .collected D, args := #[] } :: ds) g' W' from
          (hM.out.lies (g' := g') ((Lies.below HW4.out).trans (hl.imp (fun j h => .inr ⟨h.1, Nat.le_of_lt h.2.1, h.2.2⟩))) (fun q e => (hgf q e).imp id (fun h => by omega))).cons hK (by omega) (fun e => by rcases hgf D e.symm with e2 | h2; have := HGL.out D e2.symm; omega; omega) (fun E hE => by have := hM.out.lt E hE; omega))
        have HSP := Aside0.mk (soFar_prefix xs k hlt x HT.out _ hsp)
        have HJX := Aside0.mk hj
        clear hj hgf hlt' hl hK hsp
        gi_wp2
        exact leave_marks (B := W.heap.size) (g := g') (fun tmps w => results_none rfl tmps _ w) (fun W' => Jx (soFar xs k pre) g' W') (fun W' D hc hB hD => hJx.putObj _ hc hB hD) (fun W' hc => ⟨⟨_, rfl⟩, .inr ⟨_, g', HSP.out, hc⟩⟩) _ W' HJX.out HM2.out
    · obtain rfl : k = xs.length := by omega
      rw [List.take_length] at hJs
      gi_wp2
      refine leave_marks (B := W.heap.size) (g := g) (fun tmps w => results_none rfl tmps _ w) (fun W' => J (itemsF 0 xs) g W') (fun W' D hc hB hD => hJ.putObj _ hc hB hD) (fun W' hc => ⟨⟨_, rfl⟩, .inl ⟨_, g, rfl, hc⟩⟩) ds wr hJs.out hM.out
end Go.Proofs.YtofegjgiocljlaaDoorH
end
section
namespace Go.Proofs.YtofegjgiocljlaaDoorH
open Go.RowKit Go.Proofs.YtofegjgiocljlaaDoorW.PrintWords Go.Proofs.YtofegjgiocljlaaDoorW.PrintLast Go.Proofs.YtofegjgiocljlaaDoorW.PrintMore
def alikeB (a b : ByteArray) : Bool := decide (smallS a = smallS b)
set_option maxHeartbeats 800000 in
set_option maxRecDepth 100000 in
theorem alike_calls (a b : ByteArray) (w : World) (ha : a.size ≤ 140737488355328) (hb : b.size ≤ 140737488355328) (hG : TabOk w) :
    Calls Tryd.prog 54 #[.string a, .string b] w fun e w' => e = .returned (.bool (alikeB a b)) ∧ Below w.heap.size w w' := by
  have HE := Aside0.mk (show alikeB a b = ((smallS a).toList == (smallS b).toList) from (beq_toList _ _).symm)
  have HG := Aside0.mk hG
  clear hG
  go_enter Tryd.func54, Tryd.ntmps54
  go_wp2_with fail
  refine (small_calls a w ha HG.out).mono ?_
  rintro e w1 ⟨rfl, b1⟩
  have B1 := Aside0.mk b1
  clear b1
  go_wp2_with fail
  refine (small_calls b w1 hb (HG.out.below B1.out)).mono ?_
  rintro e w2 ⟨rfl, b2⟩
  have B2 := Aside0.mk (B1.out.trans (b2.mono B1.out.size))
  clear b2
  go_wp2
  go_ret
  exact ⟨by rw [HE.out]; rfl, B2.out⟩
end Go.Proofs.YtofegjgiocljlaaDoorH
end
