import Derived.Test.YtmmbpbgcobmifaaGreatDoorZOutletWholesP0
import Derived.Test.YtmmbpbgcobmifaaGreatDoorProg
import Derived.SizedLaws
import Derived.ChangeSlices
import Derived.Below
import Derived.Outline
import Derived.Shelf.Vars
import Derived.Test.YtmmbpbgcobmifaaGreatDoorRows
import Derived.LaidSub
import Derived.MakeChecks
import Derived.ProofKit
import Derived.OpenShut
import Derived.LaidMore
import Derived.Lib.SlFresh
import Derived.Lib.SlParts
import Derived.Laws.BytesArg
import Derived.Laws.BitsLemmas
import Derived.Laws.Bits64b
import Derived.Laws.Slices
import Derived.Deep.CutBlock
import Derived.WalkKit
import Derived.RowKit3
import Derived.Shelf.Strings.Builder1
import Derived.Shelf.Strings.Trim
import Derived.Shelf.Small.Utf8
import Derived.Shelf.Small.Strs
import Derived.Shelf.Strings.Search1
import Derived.Shelf.Strings.Search2
import Derived.Shelf.Strings.Cut
import Derived.Shelf.LaysM
import Derived.Shelf.Strings.Shaped
import Derived.Shelf.Strings.Runes
import Derived.Shelf.Strings.AsciiSet
import Derived.Shelf.Unicode.DecodeSlow
import Derived.Shelf.Slices.Turned
import Derived.Shelf.Bytes.SlIndexAt
import Derived.Shelf.Bytes.SlSearch0
import Derived.Ground.SlbCloneProg
import Derived.Shelf.Bytes.SlClone
import Derived.Ground.SlbNamesProg
import Derived.Shelf.Bytes.SlJoin
import Derived.Shelf.Bytes.IndexByte
import Derived.Lib.SlBytesConst
import Derived.Laws.Pointers
import Derived.Laws.NewBlocks
import Derived.Deep.RegionHeld3
import Derived.RangeFuncNested
import Derived.RangeFuncBound
import Derived.RangeFuncCalls
import Derived.RangeFuncBox
import Derived.Lib.Bytealg
import Derived.Shelf.Strings.SlTrimAscii
import Derived.RangeFuncLeaves
import Derived.RangeFuncKeeps
import Derived.Shelf.RegionOpen
import Derived.OwnWalkIn
import Derived.TacticsInMore
import Derived.LoopNIn
import Derived.LoopIn
import Derived.ControlIn
import Derived.Scope
import Derived.WalkMore
import Derived.Laws.EntriesVeiled
namespace Go.Proofs.YtmmbpbgcobmifaaGreatDoorW.PrintWords
end Go.Proofs.YtmmbpbgcobmifaaGreatDoorW.PrintWords
namespace Go.Proofs.YtmmbpbgcobmifaaGreatDoorW.PrintLast
end Go.Proofs.YtmmbpbgcobmifaaGreatDoorW.PrintLast
namespace Go.Proofs.YtmmbpbgcobmifaaGreatDoorW.PrintMore
end Go.Proofs.YtmmbpbgcobmifaaGreatDoorW.PrintMore
namespace Go.Proofs.YtmmbpbgcobmifaaGreatDoor.Pr
end Go.Proofs.YtmmbpbgcobmifaaGreatDoor.Pr
section
namespace Go.Proofs.YtmmbpbgcobmifaaGreatDoorH
open Go.RowKit Go.Proofs.YtmmbpbgcobmifaaGreatDoorW.PrintWords Go.Proofs.YtmmbpbgcobmifaaGreatDoorW.PrintLast Go.Proofs.YtmmbpbgcobmifaaGreatDoorW.PrintMore
def MxOk (w : World) : Prop := ∃ m : Int, w.cell? ⟨0, 0, none⟩ = some (.int .i64 m)
theorem MxOk.below {w w1 : World} (h : MxOk w) (hb : Below w.heap.size w w1) : MxOk w1 := by
  obtain ⟨m, hm⟩ := h
  exact ⟨m, pw_cell_below hb hm⟩
theorem MxOk.of_shaped {w : World} (h : w.ShapedOpen Tryz.prog) : MxOk w := by
  exact Go.Proofs.cell_of_shapedOpen_int (zero := #[.int .i64 0]) (t := 3) h (of_decide_eq_true (by kernel_rfl)) (by kernel_rfl) rfl (by kernel_rfl) (by kernel_rfl) Tryz.underlying3
structure TabOk (w : World) : Prop where
  c0 : w.cell? ⟨3, 0, none⟩ = some (.int .u8 48)
  c1 : w.cell? ⟨3, 1, none⟩ = some (.int .u8 57)
  c2 : w.cell? ⟨3, 2, none⟩ = some (.int .u8 65)
  c3 : w.cell? ⟨3, 3, none⟩ = some (.int .u8 90)
  c4 : w.cell? ⟨3, 4, none⟩ = some (.int .u8 97)
  c5 : w.cell? ⟨3, 5, none⟩ = some (.int .u8 122)
  mx : MxOk w
theorem TabOk.below {w w1 : World} (h : TabOk w) (hb : Below w.heap.size w w1) : TabOk w1 :=
  ⟨pw_cell_below hb h.c0, pw_cell_below hb h.c1, pw_cell_below hb h.c2, pw_cell_below hb h.c3, pw_cell_below hb h.c4, pw_cell_below hb h.c5, h.mx.below hb⟩
theorem TabOk.drawn {w w1 : World} (h : TabOk w) (hb : Drawn0 w w1) : TabOk w1 := h.below hb.below
theorem TabOk.drewN {w : World} (h : TabOk w) (n : Nat) : TabOk (w.drewN n) := h.drawn ⟨⟨n, rfl⟩⟩
theorem TabOk.lt {w : World} (h : TabOk w) : 3 < w.heap.size := World.block_lt_of_cell? w _ h.c0
end Go.Proofs.YtmmbpbgcobmifaaGreatDoorH
end
section
namespace Go.Proofs.YtmmbpbgcobmifaaGreatDoorH
open Go.RowKit Go.ChangeShapes Go.WideShapes Go.ChangeAt
theorem two_of {α : Type} {l : List α} (h : l.length = 2) : ∃ a b, l = [a, b] := by
  match l, h with
  | [a, b], _ => exact ⟨a, b, rfl⟩
theorem three_of {α : Type} {l : List α} (h : l.length = 3) : ∃ a b c, l = [a, b, c] := by
  match l, h with
  | [a, b, c], _ => exact ⟨a, b, c, rfl⟩
theorem six_of {α : Type} {l : List α} (h : l.length = 6) : ∃ a b c d e f, l = [a, b, c, d, e, f] := by
  match l, h with
  | [a, b, c, d, e, f], _ => exact ⟨a, b, c, d, e, f, rfl⟩
theorem cells_of_one {W : World} {cs : List Value} {y : DataW Unit × List MemPlace} {m : Nat} {x0 : Int}
    (hd : DataW.trod (fun _ => ()) Tryz.prog W 0 (fun _ => true) false m 5 cs = some y) (hy : y.1 = .lit (.int .u8 x0)) : cs = [.int .u8 x0] := by
  obtain ⟨n, e1, e2, _⟩ := DataW.trod_int Tryz.underlying5 hd
  rw [e2] at hy
  simp only [DataW.lit.injEq, Lit.int.injEq, true_and] at hy
  rw [e1, hy]
theorem cells_of_pair {W : World} {cs : List Value} {y : DataW Unit × List MemPlace} {m : Nat} {x0 x1 : Int}
    (hd : DataW.trod (fun _ => ()) Tryz.prog W 0 (fun _ => true) false m 150 cs = some y) (hy : y.1 = .agg [.lit (.int .u8 x0), .lit (.int .u8 x1)]) :
    cs = [.int .u8 x0, .int .u8 x1] := by
  have c5 : Tryz.prog.cellsOf 5 = 1 := by kernel_rfl
  have c2 : Tryz.prog.cellsOf 150 = 2 := by kernel_rfl
  obtain ⟨xs, m, _, ex, hn, hl, hel⟩ := DataW.trod_array Tryz.underlying150 hd
  rw [c2] at hn
  obtain ⟨a, b, rfl⟩ := two_of hn
  obtain ⟨u, v, rfl⟩ := two_of hl
  · rw [ex] at hy
    simp only [List.map_cons, List.map_nil, DataW.agg.injEq, List.cons.injEq, and_true] at hy
    have h0 := hel 0 (by omega)
    have h1 := hel 1 (by omega)
    simp only [c5] at h0 h1
    have e0 := cells_of_one (y := u) (by simpa using h0) hy.1
    have e1 := cells_of_one (y := v) (by simpa using h1) hy.2
    simp at e0 e1
    rw [e0, e1]
theorem cells_of_pairs {W : World} {cs : List Value} {y : DataW Unit × List MemPlace} {m : Nat} {x0 x1 x2 x3 x4 x5 : Int}
    (hd : DataW.trod (fun _ => ()) Tryz.prog W 0 (fun _ => true) false m 151 cs = some y)
    (hy : y.1 = .agg [.agg [.lit (.int .u8 x0), .lit (.int .u8 x1)], .agg [.lit (.int .u8 x2), .lit (.int .u8 x3)], .agg [.lit (.int .u8 x4), .lit (.int .u8 x5)]]) :
    cs = [.int .u8 x0, .int .u8 x1, .int .u8 x2, .int .u8 x3, .int .u8 x4, .int .u8 x5] := by
  have c2 : Tryz.prog.cellsOf 150 = 2 := by kernel_rfl
  have c6 : Tryz.prog.cellsOf 151 = 6 := by kernel_rfl
  obtain ⟨xs, m, _, ex, hn, hl, hel⟩ := DataW.trod_array Tryz.underlying151 hd
  rw [c6] at hn
  obtain ⟨a, b, c, d, e, f, rfl⟩ := six_of hn
  obtain ⟨u, v, z, rfl⟩ := three_of hl
  · rw [ex] at hy
    simp only [List.map_cons, List.map_nil, DataW.agg.injEq, List.cons.injEq, and_true] at hy
    have h0 := hel 0 (by omega)
    have h1 := hel 1 (by omega)
    have h2 := hel 2 (by omega)
    simp only [c2] at h0 h1 h2
    have e0 := cells_of_pair (y := u) (by simpa using h0) hy.1
    have e1 := cells_of_pair (y := v) (by simpa using h1) hy.2.1
    have e2 := cells_of_pair (y := z) (by simpa using h2) hy.2.2
    simp at e0 e1 e2
    rw [e0.1, e0.2, e1.1, e1.2, e2.1, e2.2]
theorem tabOk_of_laid {W : World} {L : List (String × DataW Unit)} (h : laidMetH Tryz.prog L W) (hp : (L.all fun x => x.2.handleName?.isNone) = true)
    (hf : L.filter (fun x => x.1 == "catchpit/octet.ends") = [("catchpit/octet.ends", Go.Proofs.YtmmbpbgcobmifaaGreatDoor.Rows.laid_catchpit_octet_ends)]) (hs : W.ShapedOpen Tryz.prog) : TabOk W := by
  rw [MakeChecks.laidMetH_plain _ _ _ hp] at h
  have h2 := laidMet.filter (fun x => x.1 == "catchpit/octet.ends") h
  rw [hf] at h2
  obtain ⟨ps, ⟨g, t, cs, fuel, p, q, hg, ht, hv, hd, _, _⟩, _, _⟩ := h2
  obtain rfl := Option.some.inj ((show Tryz.prog.globalNamed "catchpit/octet.ends" = some 3 by kernel_rfl).symm.trans hg)
  obtain rfl := Option.some.inj ((show (Tryz.prog.globals[3]?).map (·.type) = some 151 by kernel_rfl).symm.trans ht)
  have e := cells_of_pairs hd rfl
  have hc := World.var?_cell hg hv
  have at_ : ∀ j, cs[j]? = cs.toList[j]? := fun j => (Array.getElem?_toList ..).symm
  rw [e] at at_
  exact ⟨(hc 0).trans (at_ 0), (hc 1).trans (at_ 1), (hc 2).trans (at_ 2), (hc 3).trans (at_ 3), (hc 4).trans (at_ 4), (hc 5).trans (at_ 5), MxOk.of_shaped hs⟩
end Go.Proofs.YtmmbpbgcobmifaaGreatDoorH
end
section
namespace Go.Proofs.YtmmbpbgcobmifaaGreatDoorH
open Go.RowKit Go.ChangeShapes Go.WideShapes Go.ChangeAt Go.Proofs.YtmmbpbgcobmifaaGreatDoorW.PrintWords
def TabZ (w : World) : Prop := w.cell? ⟨5, 15, none⟩ = some (.int .u8 4)
theorem TabZ.below {w w1 : World} (h : TabZ w) (hb : Below w.heap.size w w1) : TabZ w1 := pw_cell_below hb h
end Go.Proofs.YtmmbpbgcobmifaaGreatDoorH
end
section
namespace Go.Proofs.YtmmbpbgcobmifaaGreatDoorH
open Go Go.RowKit Go.Proofs.YtmmbpbgcobmifaaGreatDoorW.PrintWords Go.Proofs.YtmmbpbgcobmifaaGreatDoorW.PrintLast Go.Proofs.YtmmbpbgcobmifaaGreatDoorW.PrintMore
def ByteL (l : List Int) : Prop := ∀ x ∈ l, 0 ≤ x ∧ x ≤ 255
def RowB (W : World) (v : Value) (l : List Int) : Prop := ∃ A c, v = .slice A l.length c ∧ l.length ≤ c ∧ Kd.C (Kd.int .u8) W A l.length l
theorem RowB.below {W W1 : World} {v : Value} {l : List Int} (h : RowB W v l) (hb : Below W.heap.size W W1) : RowB W1 v l := by
  obtain ⟨A, c, e, hc, hC⟩ := h
  exact ⟨A, c, e, hc, Kd.C_below hC hb⟩
theorem RowB.nil (W : World) : RowB W (.slice none 0 0) [] := ⟨none, 0, rfl, Nat.le_refl _, rfl, by decide, fun h => by cases h⟩
end Go.Proofs.YtmmbpbgcobmifaaGreatDoorH
end
section
namespace Go.Proofs.YtmmbpbgcobmifaaGreatDoor.Pr
end Go.Proofs.YtmmbpbgcobmifaaGreatDoor.Pr
namespace Go.Proofs.YtmmbpbgcobmifaaGreatDoorH
open Go.RowKit Go.Proofs.YtmmbpbgcobmifaaGreatDoorW.PrintWords Go.Proofs.YtmmbpbgcobmifaaGreatDoorW.PrintLast Go.Proofs.YtmmbpbgcobmifaaGreatDoorW.PrintMore Go.Proofs.YtmmbpbgcobmifaaGreatDoor.Pr
theorem strOfNums_append (a b : List Int) : strOfNums (a ++ b) = strOfNums a ++ strOfNums b := by
  apply ByteArray.ext
  apply Array.toList_inj.1
  show _ = (strOfNums a).data.toList ++ (strOfNums b).data.toList
  rw [strOfNums_data, strOfNums_data, strOfNums_data, List.map_append]
end Go.Proofs.YtmmbpbgcobmifaaGreatDoorH
end
section
namespace Go.Proofs.YtmmbpbgcobmifaaGreatDoorH
open Go.RowKit Go.Proofs.YtmmbpbgcobmifaaGreatDoorW.PrintWords Go.Proofs.YtmmbpbgcobmifaaGreatDoorW.PrintLast Go.Proofs.YtmmbpbgcobmifaaGreatDoorW.PrintMore
theorem add_plain2 (b o i : Nat) : (⟨b, o, none⟩ : Addr).add i = ⟨b, o + i, none⟩ := by unfold Addr.add; split <;> simp_all
def Tail (W : World) (b : Nat) (s : List Int) : Prop := ∃ (cs : Array Value) (T : TypeId), W.heap[b]? = some (.cells cs T (0, 0)) ∧ cs.size = 65 ∧ ∀ (j : Nat) (y : Int), s[j]? = some y → cs[65 - s.length + j]? = some (.int .u8 y)
theorem Tail.put {W : World} {b : Nat} {s : List Int} (h : Tail W b s) (hs : s.length < 65) (y : Int) : Tail (W.setCell ⟨b, 64 - s.length, none⟩ (.int .u8 y)) b (y :: s) := by
  obtain ⟨cs, T, hb, hz, hc⟩ := h
  refine ⟨cs.setIfInBounds (64 - s.length) (.int .u8 y), T, blk_put hb _ _ rfl, by simpa using hz, fun j x hx => ?_⟩
  rw [List.length_cons]
  cases j with
  | zero =>
    obtain rfl : y = x := by simpa using hx
    rw [show 65 - (s.length + 1) + 0 = 64 - s.length by omega, Array.getElem?_setIfInBounds_self_of_lt (by omega)]
  | succ j =>
    have hx : s[j]? = some x := by simpa using hx
    rw [show 65 - (s.length + 1) + (j + 1) = 65 - s.length + j by omega, Array.getElem?_setIfInBounds_ne (by omega)]
    exact hc j x hx
theorem Tail.reads {W : World} {b : Nat} {s : List Int} (h : Tail W b s) (hs : s.length ≤ 65) : Kd.C (Kd.int .u8) W (some ⟨b, 65 - s.length, none⟩) s.length s := by
  obtain ⟨cs, T, hb, hz, hc⟩ := h
  refine ⟨rfl, by omega, fun _ => ⟨_, rfl, fun j y hy => ⟨[.int .u8 y], rfl, rfl, fun i u hu => ?_⟩⟩⟩
  have : i = 0 ∧ .int .u8 y = u := by
    cases i with
    | zero => exact ⟨rfl, by simpa using hu⟩
    | succ i => simp at hu
  obtain ⟨rfl, rfl⟩ := this
  have hx := hc j y hy
  show W.cell? ((⟨b, 65 - s.length, none⟩ : Addr).add (j * 1 + 0)) = _
  rw [add_plain2, show 65 - s.length + (j * 1 + 0) = 65 - s.length + j by omega]
  exact (blk_cell hb _).trans hx
theorem Tail.new {W : World} (cs : Array Value) (T : TypeId) (h : cs.size = 65) : Tail (W.alloc (.cells cs T)) W.heap.size [] := ⟨cs, T, heap_alloc_new W _, h, fun j y hy => by simp at hy⟩
end Go.Proofs.YtmmbpbgcobmifaaGreatDoorH
end
section
namespace Go.Proofs
open Go.Shelf
def Tryz.lays160_ren : Go.Shelf.Ren := ⟨fun | 160 => 94 | 232 => 103 | 231 => 102 | 227 => 104 | 234 => 106 | 233 => 105 | 236 => 108 | 235 => 107 | 228 => 113 | 271 => 116 | 151 => 115 | 197 => 114 | 120 => 120 | 152 => 119 | 260 => 118 | 137 => 92 | 119 => 121 | 224 => 111 | 225 => 110 | 217 => 100 | 266 => 109 | n => n, fun | 9 => 9 | 4 => 4 | 3 => 3 | 5 => 5 | 117 => 159 | 116 => 158 | 0 => 0 | 124 => 162 | 21 => 21 | 105 => 165 | 46 => 148 | 119 => 171 | 139 => 174 | 138 => 173 | n => n, fun | 3 => 6 | 4 => 7 | n => n⟩
theorem Tryz.lays160 : Go.Proofs.Lays.n160 Tryz.prog Tryz.lays160_ren := {
  mixed := by kernel_rfl
  f119 := Tryz.func121.trans (congrArg some (by kernel_rfl))
  f120 := Tryz.func120.trans (congrArg some (by kernel_rfl))
  f137 := Tryz.func92.trans (congrArg some (by kernel_rfl))
  f151 := Tryz.func115.trans (congrArg some (by kernel_rfl))
  f152 := Tryz.func119.trans (congrArg some (by kernel_rfl))
  f160 := Tryz.func94.trans (congrArg some (by kernel_rfl))
  f197 := Tryz.func114.trans (congrArg some (by kernel_rfl))
  f217 := Tryz.func100.trans (congrArg some (by kernel_rfl))
  f224 := Tryz.func111.trans (congrArg some (by kernel_rfl))
  f225 := Tryz.func110.trans (congrArg some (by kernel_rfl))
  f227 := Tryz.func104.trans (congrArg some (by kernel_rfl))
  f228 := Tryz.func113.trans (congrArg some (by kernel_rfl))
  f231 := Tryz.func102.trans (congrArg some (by kernel_rfl))
  f232 := Tryz.func103.trans (congrArg some (by kernel_rfl))
  f233 := Tryz.func105.trans (congrArg some (by kernel_rfl))
  f234 := Tryz.func106.trans (congrArg some (by kernel_rfl))
  f235 := Tryz.func107.trans (congrArg some (by kernel_rfl))
  f236 := Tryz.func108.trans (congrArg some (by kernel_rfl))
  f260 := Tryz.func118.trans (congrArg some (by kernel_rfl))
  f266 := Tryz.func109.trans (congrArg some (by kernel_rfl))
  f271 := Tryz.func116.trans (congrArg some (by kernel_rfl))
  t0 := Tryz.underlying0
  a0 := Tryz.isAgg0
  z0 := Tryz.sizeOf0
  v0 := Tryz.zeroValue0
  t3 := Tryz.underlying3
  a3 := Tryz.isAgg3
  z3 := Tryz.sizeOf3
  v3 := Tryz.zeroValue3
  t4 := Tryz.underlying4
  a4 := Tryz.isAgg4
  z4 := Tryz.sizeOf4
  v4 := Tryz.zeroValue4
  t5 := Tryz.underlying5
  a5 := Tryz.isAgg5
  z5 := Tryz.sizeOf5
  v5 := Tryz.zeroValue5
  t9 := Tryz.underlying9
  a9 := Tryz.isAgg9
  z9 := Tryz.sizeOf9
  v9 := Tryz.zeroValue9
  t21 := Tryz.underlying21
  a21 := Tryz.isAgg21
  z21 := Tryz.sizeOf21
  v21 := Tryz.zeroValue21
  t46 := Tryz.underlying148
  a46 := Tryz.isAgg148
  z46 := Tryz.sizeOf148
  v46 := Tryz.zeroValue148
  t105 := Tryz.underlying165
  a105 := Tryz.isAgg165
  z105 := Tryz.sizeOf165
  v105 := Tryz.zeroValue165
  t116 := Tryz.underlying158
  a116 := Tryz.isAgg158
  z116 := Tryz.sizeOf158
  t117 := Tryz.underlying159
  a117 := Tryz.isAgg159
  z117 := Tryz.sizeOf159
  v117 := Tryz.zeroValue159
  t119 := Tryz.underlying171
  a119 := Tryz.isAgg171
  z119 := Tryz.sizeOf171
  t124 := Tryz.underlying162
  a124 := Tryz.isAgg162
  z124 := Tryz.sizeOf162
  v124 := Tryz.zeroValue162
  t138 := Tryz.underlying173
  a138 := Tryz.isAgg173
  z138 := Tryz.sizeOf173
  v138 := Tryz.zeroValue173
  t139 := Tryz.underlying174
  a139 := Tryz.isAgg174
  z139 := Tryz.sizeOf174
  v139 := Tryz.zeroValue174
  g3 := by kernel_rfl
  g4 := by kernel_rfl }
def Tryz.lays145_ren : Go.Shelf.Ren := ⟨fun | 145 => 78 | 220 => 93 | 219 => 101 | 217 => 100 | 225 => 110 | 224 => 111 | 267 => 112 | 266 => 109 | 314 => 117 | n => n, fun | 9 => 9 | 4 => 4 | 59 => 136 | 3 => 3 | 5 => 5 | 46 => 148 | 146 => 168 | 51 => 145 | n => n, fun | 1 => 0 | n => n⟩
theorem Tryz.lays145 : Go.Proofs.Lays.n145 Tryz.prog Tryz.lays145_ren := {
  mixed := by kernel_rfl
  f145 := Tryz.func78.trans (congrArg some (by kernel_rfl))
  f217 := Tryz.func100.trans (congrArg some (by kernel_rfl))
  f219 := Tryz.func101.trans (congrArg some (by kernel_rfl))
  f220 := Tryz.func93.trans (congrArg some (by kernel_rfl))
  f224 := Tryz.func111.trans (congrArg some (by kernel_rfl))
  f225 := Tryz.func110.trans (congrArg some (by kernel_rfl))
  f266 := Tryz.func109.trans (congrArg some (by kernel_rfl))
  f267 := Tryz.func112.trans (congrArg some (by kernel_rfl))
  f314 := Tryz.func117.trans (congrArg some (by kernel_rfl))
  t3 := Tryz.underlying3
  a3 := Tryz.isAgg3
  z3 := Tryz.sizeOf3
  v3 := Tryz.zeroValue3
  t4 := Tryz.underlying4
  a4 := Tryz.isAgg4
  z4 := Tryz.sizeOf4
  v4 := Tryz.zeroValue4
  t5 := Tryz.underlying5
  a5 := Tryz.isAgg5
  z5 := Tryz.sizeOf5
  v5 := Tryz.zeroValue5
  t9 := Tryz.underlying9
  a9 := Tryz.isAgg9
  z9 := Tryz.sizeOf9
  v9 := Tryz.zeroValue9
  t46 := Tryz.underlying148
  a46 := Tryz.isAgg148
  z46 := Tryz.sizeOf148
  v46 := Tryz.zeroValue148
  t51 := Tryz.underlying145
  a51 := Tryz.isAgg145
  z51 := Tryz.sizeOf145
  v51 := Tryz.zeroValue145
  t59 := Tryz.underlying136
  a59 := Tryz.isAgg136
  z59 := Tryz.sizeOf136
  v59 := Tryz.zeroValue136
  t146 := Tryz.underlying168
  a146 := Tryz.isAgg168
  z146 := Tryz.sizeOf168
  v146 := Tryz.zeroValue168
  g1 := by kernel_rfl }
open Go.RowKit Go.Lib in
theorem Tryz.strings_Cut (s sep : ByteArray) (m : Int) (w : World) (hs : s.size < 4294967281) (hm : w.cell? ⟨0, 0, none⟩ = some (.int .i64 m)) :
    Calls Tryz.prog 78 #[.string s, .string sep] w fun e w' => e = .returned (.tuple #[.string ⟨(Lib.cut s.data.toList sep.data.toList).1.toArray⟩, .string ⟨(Lib.cut s.data.toList sep.data.toList).2.1.toArray⟩, .bool (Lib.cut s.data.toList sep.data.toList).2.2]) ∧ ∃ n, w' = w.drewN n := Any.strings_Cut Tryz.lays145 s sep m w hs hm
def Tryz.laysSlK4_ren : Go.Shelf.Ren := ⟨fun | 4 => 146 | n => n, fun | 22 => 25 | 4 => 4 | 5 => 5 | n => n, fun | n => n⟩
theorem Tryz.laysSlK4 : Go.Proofs.SlLaysK.n4 Tryz.prog Tryz.laysSlK4_ren := {
  mixed := by kernel_rfl
  f4 := Tryz.func146.trans (congrArg some (by kernel_rfl))
  t4 := Tryz.underlying4
  a4 := Tryz.isAgg4
  z4 := Tryz.sizeOf4
  v4 := Tryz.zeroValue4
  t22 := Tryz.underlying25
  a22 := Tryz.isAgg25
  z22 := Tryz.sizeOf25
  v22 := Tryz.zeroValue25
  t5 := Tryz.underlying5
  i5 := by kernel_rfl }
open Go.RowKit Go.Lib in
theorem Tryz.bytes_Clone_at (a : Addr) (n c : Nat) (xs : List Int) (w : World) (hx : xs.length = n) (hbig : n ≤ 140737488355328) (hc : ∀ i, i < n → w.cell? (a.add i) = some (.int .u8 (xs.getD i 0))) :
    Calls Tryz.prog 146 #[.slice (some a) n c] w fun e w' => ∃ v', e = .returned v' ∧ w'.ownsRow w.heap.size 5 1 v' n (xs.map (Value.int .u8)) ∧ v' ≠ .slice none 0 0 ∧ Below w.heap.size w w' := Any.bytes_Clone_at Tryz.laysSlK4 a n c xs w hx hbig hc
end Go.Proofs
end
section
namespace Go.Proofs.YtmmbpbgcobmifaaGreatDoorH
open Go.RowKit Go.Proofs.YtmmbpbgcobmifaaGreatDoorW.PrintWords Go.Proofs.YtmmbpbgcobmifaaGreatDoorW.PrintLast Go.Proofs.YtmmbpbgcobmifaaGreatDoorW.PrintMore
def Keeps (B : Nat) (w : World) (p : World → Prop) : Prop := ∀ W, Below B w W → p W
theorem Keeps.then {B : Nat} {w w1 : World} {p : World → Prop} (h : Keeps B w p) (hb : Below B w w1) : Keeps B w1 p := fun W hW => h W (hb.trans hW)
theorem Keeps.here {B : Nat} {w : World} {p : World → Prop} (h : Keeps B w p) : p w := h w (Below.refl _ _)
def Only (b : Nat) (w w' : World) : Prop := Below b w w' ∧ KeepBut w w' b none
theorem Only.refl (b : Nat) (w : World) : Only b w w := ⟨Below.refl _ _, KeepBut.refl _ _ _⟩
theorem Only.of_below {b : Nat} {w w' : World} (h : Below w.heap.size w w') (hb : b ≤ w.heap.size) : Only b w w' := ⟨h.mono hb, KeepBut.of_below h b none⟩
theorem Only.trans {b : Nat} {w w1 w2 : World} (h : Only b w w1) (k : Only b w1 w2) : Only b w w2 := ⟨h.1.trans k.1, KeepBut.trans h.2 k.2 (.inl rfl)⟩
theorem Only.set {b : Nat} (w : World) (j : Nat) (v : Value) : Only b w (w.setCell ⟨b, j, none⟩ v) := ⟨(Below.refl _ _).setCell (p := ⟨b, j, none⟩) (Nat.le_refl _) v, KeepBut.set_ (KeepBut.refl _ _ _) j v⟩
theorem Only.blk {b c : Nat} {w w1 : World} (h : Only b w w1) {o : Obj} (hc : w.heap[c]? = some o) (hne : c ≠ b) : w1.heap[c]? = some o := KeepBut.blk h.2 hc hne (by simp)
theorem only_set {bk : Nat} {w w' : World} (hk : bk < w.heap.size) (v : Value) (hb : Below (w.setCell ⟨bk, 0, none⟩ v).heap.size (w.setCell ⟨bk, 0, none⟩ v) w') : Only bk w w' :=
  (Only.set w 0 v).trans (Only.of_below hb (Nat.le_trans (Nat.le_of_lt hk) (Only.set w 0 v).1.size))
theorem Only.drawn {b : Nat} {w w' : World} (h : Drawn0 w w') (hb : b ≤ w.heap.size) : Only b w w' := Only.of_below h.below hb
end Go.Proofs.YtmmbpbgcobmifaaGreatDoorH
end
section
namespace Go.Proofs.YtmmbpbgcobmifaaGreatDoorH
open Go.RowKit Go.Proofs.YtmmbpbgcobmifaaGreatDoorW.PrintWords Go.Proofs.YtmmbpbgcobmifaaGreatDoorW.PrintLast Go.Proofs.YtmmbpbgcobmifaaGreatDoorW.PrintMore
def kindT (k : Nat) : TypeId := if k = 1 then 54 else if k = 2 then 65 else 67
def kindO (k : Nat) (n sz : Nat) : Obj := if k = 1 then .cells #[.int .i64 n, .int .u64 sz] 60 (0, 0) else if k = 2 then .cells #[.int .i64 n] 66 (0, 0) else .cells #[.int .i64 n] 58 (0, 0)
def EncAt (W : World) (B b k n sz : Nat) (en : Bool) : Prop :=
  ∃ bk, B ≤ b ∧ B ≤ bk ∧ b ≠ bk ∧ (k = 1 ∨ k = 2 ∨ k = 3) ∧ W.heap[b]? = some (.cells #[.iface (kindT k) (.pointer (some ⟨bk, 0, none⟩)), .bool en] 64 (0, 0)) ∧ W.heap[bk]? = some (kindO k n sz)
theorem EncAt.below {W W' : World} {B b k n sz : Nat} {en : Bool} (h : EncAt W B b k n sz en) (hb : Below W.heap.size W W') : EncAt W' B b k n sz en := by
  obtain ⟨bk, h1, h2, h3, h4, h5, h6⟩ := h
  exact ⟨bk, h1, h2, h3, h4, blk_below h5 hb, (hb.block bk (Array.getElem?_eq_some_iff.1 h6).1).trans h6⟩
set_option maxHeartbeats 1600000 in
set_option maxRecDepth 100000 in
theorem add_calls (bk n : Nat) (A : Option Addr) (m c : Nat) (w : World) (hc : w.cell? ⟨bk, 0, none⟩ = some (.int .i64 n)) (hf : w.frozen? ⟨bk, 0, none⟩ = false) (hn : n + m ≤ 4611686018427387904) :
    Calls Tryz.prog 145 #[.pointer (some ⟨bk, 0, none⟩), .slice A m c] w fun e w' => e = .returned (.tuple #[]) ∧ w' = w.setCell ⟨bk, 0, none⟩ (.int .i64 ((n + m : Nat) : Int)) := by
  obtain ⟨x, hx⟩ : ∃ x, n + m = x := ⟨_, rfl⟩
  have hw1 : IntKind.i64.wrap ((n : Int) + (m : Int)) = (x : Int) := by
    unfold IntKind.wrap
    simp [IntKind.bits, IntKind.signed]
    omega
  rw [hx]
  go_enter Tryz.func145, Tryz.ntmps145
  go_wp2
  go_end0
  exact ⟨rfl, rfl⟩
theorem kind_cell {W : World} {bk k n sz : Nat} (h : W.heap[bk]? = some (kindO k n sz)) : W.cell? ⟨bk, 0, none⟩ = some (.int .i64 n) ∧ W.frozen? ⟨bk, 0, none⟩ = false ∧ bk < W.heap.size := by
  unfold kindO at h
  split at h
  · exact ⟨(blk_cell h 0).trans rfl, blk_frozen h 0, blk_lt h⟩
  · split at h
    · exact ⟨(blk_cell h 0).trans rfl, blk_frozen h 0, blk_lt h⟩
    · exact ⟨(blk_cell h 0).trans rfl, blk_frozen h 0, blk_lt h⟩
set_option maxHeartbeats 1600000 in
set_option maxRecDepth 100000 in
theorem fixed_left (bk n sz : Nat) (w : World) (h : w.heap[bk]? = some (.cells #[.int .i64 n, .int .u64 sz] 60 (0, 0))) (hle : n ≤ sz) (hsz : sz ≤ 4611686018427387903) :
    Calls Tryz.prog 141 #[.pointer (some ⟨bk, 0, none⟩)] w fun e w' => e = .returned (.int .u64 ((sz - n : Nat) : Int)) ∧ Drawn0 w w' := by
  have c0 : w.cell? ⟨bk, 0, none⟩ = some (.int .i64 n) := (blk_cell h 0).trans rfl
  have c1 : w.cell? ⟨bk, 1, none⟩ = some (.int .u64 sz) := (blk_cell h 1).trans rfl
  obtain ⟨x, hx⟩ : ∃ x, sz - n = x := ⟨_, rfl⟩
  have hw0 : IntKind.u64.wrap (n : Int) = n := by
    unfold IntKind.wrap
    simp [IntKind.bits, IntKind.signed]
    omega
  have hw1 : IntKind.u64.wrap ((sz : Int) - (n : Int)) = (x : Int) := by
    unfold IntKind.wrap
    simp [IntKind.bits, IntKind.signed]
    omega
  rw [hx]
  clear h hx
  go_enter Tryz.func141, Tryz.ntmps141
  go_wp2_with fail
  go_region_held3 (fun W => W.cell? ⟨bk, 0, none⟩ = some (.int .i64 n) ∧ W.cell? ⟨bk, 1, none⟩ = some (.int .u64 sz)) (exact ⟨c0, c1⟩) (fail)
  go_wp2
  go_ret
  exact ⟨rfl, ⟨⟨1, rfl⟩⟩⟩
set_option maxHeartbeats 1600000 in
set_option maxRecDepth 100000 in
theorem enc_left1 (B b n sz : Nat) (en : Bool) (w : World) (h : EncAt w B b 1 n sz en) (hle : n ≤ sz) (hsz : sz ≤ 4611686018427387903) :
    Calls Tryz.prog 40 #[.pointer (some ⟨b, 0, none⟩)] w fun e w' => e = .returned (.int .u64 ((sz - n : Nat) : Int)) ∧ Drawn0 w w' := by
  obtain ⟨bk, h1, h2, h3, h4, h5, h6⟩ := h
  have c0 : w.cell? ⟨b, 0, none⟩ = some (.iface 54 (.pointer (some ⟨bk, 0, none⟩))) := (blk_cell h5 0).trans rfl
  have hl := fixed_left bk n sz w h6 hle hsz
  have hmt : ∀ (q : Nat) (W : World), (method (q + 1) 54 (.pointer (some ⟨bk, 0, none⟩)) "catchpit/enchunk.left").run Tryz.prog W = .ok (141, .pointer (some ⟨bk, 0, none⟩)) W := fun _ _ => by kernel_rfl
  generalize sz - n = x at *
  clear h5 h6
  go_enter Tryz.func40, Tryz.ntmps40
  go_wp2_with fail
  refine hl.mono ?_
  rintro e w2 ⟨rfl, hd⟩
  clear hl
  go_wp2
  go_ret
  exact ⟨rfl, hd⟩
set_option maxHeartbeats 1600000 in
set_option maxRecDepth 100000 in
theorem enc_new1 (sz : Nat) (hsz : sz ≤ 4611686018427387903) (w : World) :
    Calls Tryz.prog 8 #[.agg #[.int .i64 1, .int .u64 sz]] w fun e w' => ∃ b, e = .returned (.tuple #[.pointer (some ⟨b, 0, none⟩), .int .i64 0]) ∧ EncAt w' w.heap.size b 1 0 sz false ∧ Below w.heap.size w w' := by
  have hb1 : ∀ W : World, (Instr.build 60 #[(1, .int .u64 sz)]).run Tryz.prog W = .ok (.agg #[.int .i64 0, .int .u64 sz]) W := fun _ => by kernel_rfl
  have hb2 : ∀ (bk : Nat) (W : World), (Instr.build 64 #[(0, .iface 54 (.pointer (some ⟨bk, 0, none⟩)))]).run Tryz.prog W = .ok (.agg #[.iface 54 (.pointer (some ⟨bk, 0, none⟩)), .bool false]) W := fun _ _ => by kernel_rfl
  have hsz' : (sz : Int) ≤ 4611686018427387903 := by omega
  go_enter Tryz.func8, Tryz.ntmps8
  go_wp2
  go_ret2
  refine ⟨_, rfl, ⟨w.heap.size + 1, by omega, by omega, by omega, by decide, ?_, ?_⟩, below_alloc (below_alloc (below_alloc (Below.refl _ _) _) _) _⟩
  · have h := heap_alloc_new ((w.alloc (.cells #[.int .i64 1, .int .u64 sz] 36)).alloc (.cells #[.int .i64 0, .int .u64 sz] 60)) (.cells #[.iface 54 (.pointer (some ⟨w.heap.size + 1, 0, none⟩)), .bool false] 64)
    rw [World.size_alloc, World.size_alloc] at h
    exact h
  · have h := heap_alloc_new (w.alloc (.cells #[.int .i64 1, .int .u64 sz] 36)) (.cells #[.int .i64 0, .int .u64 sz] 60)
    rw [World.size_alloc] at h
    exact blk_alloc h _
set_option maxHeartbeats 1600000 in
set_option maxRecDepth 100000 in
theorem right_nil (c : Nat) (w : World) : Calls Tryz.prog 143 #[.slice none 0 c] w fun e w' => e = .returned (.int .i64 0) ∧ w' = w := by
  go_enter Tryz.func143, Tryz.ntmps143
  go_wp2_with fail
  go_loopw [7] (fun u7 wr => u7 = .int .i64 0 ∧ wr = w) (fun _ _ => 0)
  case atStart => exact ⟨rfl, by trivial⟩
  case round =>
    obtain ⟨rfl, rfl⟩ := hrel
    go_wp2
    go_ret
    exact ⟨rfl, rfl⟩
set_option maxHeartbeats 1600000 in
set_option maxRecDepth 100000 in
theorem fixed_end_nil (bk n : Nat) (c : Nat) (w : World) (h : w.heap[bk]? = some (.cells #[.int .i64 n, .int .u64 n] 60 (0, 0))) (hsz : n ≤ 4611686018427387903) :
    Calls Tryz.prog 139 #[.pointer (some ⟨bk, 0, none⟩), .slice none 0 c] w fun e w' => e = .returned (.tuple #[.slice none 0 0, .int .i64 0]) ∧ Drawn0 w w' := by
  have hl := fixed_left bk n n w h (by omega) hsz
  have HRN := Aside0.mk (right_nil c)
  rw [Nat.sub_self] at hl
  clear h
  go_enter Tryz.func139, Tryz.ntmps139
  go_wp2_with fail
  refine hl.mono ?_
  rintro e w2 ⟨rfl, hd⟩
  clear hl
  go_wp2_with fail
  refine (HRN.out w2).mono ?_
  rintro e w3 ⟨rfl, rfl⟩
  go_wp2
  go_ret2
  exact ⟨rfl, hd⟩
end Go.Proofs.YtmmbpbgcobmifaaGreatDoorH
end
section
namespace Go.Proofs.YtmmbpbgcobmifaaGreatDoorH
open Go.RowKit Go.Proofs.YtmmbpbgcobmifaaGreatDoorW.PrintWords Go.Proofs.YtmmbpbgcobmifaaGreatDoorW.PrintLast Go.Proofs.YtmmbpbgcobmifaaGreatDoorW.PrintMore
def strings_Cut.f (a0 a1 : ByteArray) : Option (ByteArray × ByteArray × Bool) := if a0.size < 4294967281 then some (⟨(Lib.cut a0.data.toList a1.data.toList).1.toArray⟩, ⟨(Lib.cut a0.data.toList a1.data.toList).2.1.toArray⟩, (Lib.cut a0.data.toList a1.data.toList).2.2) else none
theorem strings_Cut.calls (a0 a1 : ByteArray) (r1 r2 : ByteArray) (r3 : Bool) (w : World) (hG : TabOk w) (h : strings_Cut.f a0 a1 = some (r1, r2, r3)) :
    Calls Tryz.prog 78 #[.string a0, .string a1] w fun e w' => e = .returned (.tuple #[.string r1, .string r2, .bool r3]) ∧ Below w.heap.size w w' := by
  unfold strings_Cut.f at h
  split at h
  · rename_i hs
    injection h with h
    injection h with h1 h
    injection h with h2 h3
    subst h1 h2 h3
    obtain ⟨m, hm⟩ := hG.mx
    refine (Tryz.strings_Cut a0 a1 m w hs hm).mono ?_
    rintro e w' ⟨rfl, n, rfl⟩
    exact ⟨rfl, (show Drawn0 w (w.drewN n) from ⟨⟨n, rfl⟩⟩).below⟩
  · cases h
end Go.Proofs.YtmmbpbgcobmifaaGreatDoorH
end
section
namespace Go.Proofs.YtmmbpbgcobmifaaGreatDoorH
open Go Go.RowKit
theorem room_none {F : Fence} (hd : F.depth = none) (k : Nat) : F.room k := fun d h => by rw [hd] at h; cases h
theorem round_any {F : Fence} (hd : F.depth = none) {m m' : Nat} {P : Program} {l : Nat} {f : FuncId} {tmps : Array Value} {assign body : Code} {w : World} {R : Ending → World → Prop}
    (h : RoundIn F m P l f tmps assign body w R) : RoundIn F m' P l f tmps assign body w R := ⟨h.1, fun c cs _ => h.2 c cs (room_none hd _)⟩
def Abd {β : Type} (Z : Nat → Prop) (B : Nat) (J : β → Option Nat → World → Prop) : Prop :=
  ∀ s g A C row, J s g A → A.grownBy C row → (∀ r, row = some r → (B ≤ r ∧ some r ≠ g) ∨ Z r) → J s g C
structure Spares (K : Nat → Prop) (g g' : Option Nat) (W W' : World) : Prop where
  size : W.heap.size ≤ W'.heap.size
  own : g' = g ∨ ∃ b, g' = some b ∧ W.heap.size ≤ b ∧ b < W'.heap.size
  same : ∀ k, K k → k < W.heap.size → some k ≠ g → W'.heap[k]? = W.heap[k]?
theorem Spares.refl (K : Nat → Prop) (g : Option Nat) (W : World) : Spares K g g W W := ⟨Nat.le_refl _, .inl rfl, fun _ _ _ _ => rfl⟩
theorem Spares.trans {K : Nat → Prop} {g g' g'' : Option Nat} {A B C : World} (h : Spares K g g' A B) (h' : Spares K g' g'' B C) : Spares K g g'' A C := by
  refine ⟨Nat.le_trans h.size h'.size, ?_, fun k hk hlt hne => ?_⟩
  · rcases h'.own with e | ⟨b, e, hb, hb2⟩
    · rcases h.own with e2 | ⟨b, e2, hb, hb2⟩
      · exact .inl (e.trans e2)
      · exact .inr ⟨b, e.trans e2, hb, Nat.lt_of_lt_of_le hb2 h'.size⟩
    · exact .inr ⟨b, e, Nat.le_trans h.size hb, hb2⟩
  · refine (h'.same k hk (Nat.lt_of_lt_of_le hlt h.size) ?_).trans (h.same k hk hlt hne)
    rcases h.own with e | ⟨b, e, hb, _⟩
    · rw [e]; exact hne
    · rw [e]; intro h; cases h; omega
theorem Spares.imp {K K' : Nat → Prop} {g g' : Option Nat} {A B : World} (h : Spares K g g' A B) (hk : ∀ k, K' k → k < A.heap.size → K k) : Spares K' g g' A B := ⟨h.size, h.own, fun k a b c => h.same k (hk k a b) b c⟩
theorem Spares.below {K : Nat → Prop} {g : Option Nat} {W W' : World} (h : Below W.heap.size W W') : Spares K g g W W' := ⟨h.size, .inl rfl, fun k _ hk _ => h.block k hk⟩
theorem Spares.turned {K : Nat → Prop} {g : Option Nat} {W W' : World} {row : Option Nat} (h : W.grownBy W' row) (hr : ∀ r, row = some r → K r → some r = g) : Spares K g g W W' :=
  ⟨h.size, .inl rfl, fun k hk hlt hne => h.block k hlt (fun e => hne (hr k e.symm hk))⟩
theorem Abd.step {β : Type} {Z : Nat → Prop} {B : Nat} {I : β → Option Nat → World → Prop} (h : Abd Z B I) {s : β} {g : Option Nat} {W W' : World} (hs : I s g W) (hb : W.grownBy W' none) : I s g W' := h s g W _ none hs hb (fun r e => by cases e)
theorem Abd.putObj {β : Type} {Z : Nat → Prop} {B : Nat} {I : β → Option Nat → World → Prop} (h : Abd Z B I) {s : β} {g : Option Nat} {W : World} {l : Nat} (o' : Obj) (hs : I s g W) (hB : B ≤ l) (hl : some l ≠ g) : I s g (W.putObj l o') :=
  h s g W _ (some l) hs (grownBy_putObj' W l o') (fun r e => by cases e; exact .inl ⟨hB, hl⟩)
theorem Abd.alloc {β : Type} {Z : Nat → Prop} {B : Nat} {I : β → Option Nat → World → Prop} (h : Abd Z B I) {s : β} {g : Option Nat} {W : World} (o : Obj) (hs : I s g W) : I s g (W.alloc o) :=
  h.step hs (World.grownBy_alloc W o none)
theorem Abd.and {β : Type} {Z : Nat → Prop} {B : Nat} {I I' : β → Option Nat → World → Prop} (h : Abd Z B I) (h' : Abd Z B I') : Abd Z B (fun s g W => I s g W ∧ I' s g W) := fun s g A C row hs hg hr => ⟨h s g A C row hs.1 hg hr, h' s g A C row hs.2 hg hr⟩
theorem Abd.pure {β : Type} {Z : Nat → Prop} {B : Nat} (p : β → Option Nat → Prop) : Abd Z B (fun s g (_ : World) => p s g) := fun _ _ _ _ _ hs _ _ => hs
theorem Abd.imp {β : Type} {Z Z' : Nat → Prop} {B B' : Nat} {I : β → Option Nat → World → Prop} (h : Abd Z B I) (hB : B ≤ B') (hZ : ∀ r, Z' r → Z r) : Abd Z' B' I := fun s g A C row hs hg hr => h s g A C row hs hg (fun r e => (hr r e).elim (fun k => .inl ⟨Nat.le_trans hB k.1, k.2⟩) (fun k => .inr (hZ r k)))
theorem Abd.low {β : Type} {Z : Nat → Prop} {B n₀ : Nat} {w : World} (hB : n₀ ≤ B) (hw : n₀ ≤ w.heap.size) (hZ : ∀ r, Z r → n₀ ≤ r) : Abd Z B (fun (_ : β) _ W => Below n₀ w W) := fun _ _ _ _ _ hs hg hr =>
  hs.grown hg (Nat.le_trans hw hs.size) (fun k e => (hr k e).elim (fun h => Nat.le_trans hB h.1) (fun h => hZ k h))
theorem Abd.block {β : Type} {Z : Nat → Prop} {B b : Nat} (f : β → Obj) (hB : b < B) (hZ : ¬ Z b) : Abd Z B (fun (s : β) _ W => W.heap[b]? = some (f s)) := fun _ _ _ _ _ hs hg hr =>
  (hg.block b (Array.getElem?_eq_some_iff.1 hs).1 (fun e => (hr b e.symm).elim (fun h => by omega) (fun h => hZ h))).trans hs
theorem Abd.rowed {β : Type} {Z : Nat → Prop} {B n₀ b : Nat} {t e : TypeId} {size : Nat} (k : β → Nat) (f : β → List Value) (m : Nat) (hm : B ≤ m) (hB : b < B) (hZ : ¬ Z b) (hZB : ∀ r, Z r → r < B) :
    Abd Z B (fun (s : β) g W => (∀ q, g = some q → m ≤ q) ∧ ∃ v, v.ownBlock = g ∧ Boxed W b t v ∧ W.ownsRow n₀ e size v (k s) (f s)) := by
  rintro s g A C row ⟨hgB, v, rfl, hb, hr⟩ hg hrow
  refine ⟨hgB, v, rfl, hb.kept hg (fun e' => (hrow b e'.symm).elim (fun h => by omega) (fun h => hZ h)), hr.kept hg ?_⟩
  cases hv : v.ownBlock with
  | none => exact .inl rfl
  | some q => exact .inr (fun e' => (hrow q e'.symm).elim (fun h => h.2 hv.symm) (fun h => by have := hZB q h; have := hgB q hv; omega))
def SeqO {α : Type} (F : Fence) (n : Nat) (P : Program) (gf : Nat) (lb : Array Value) (encs : α → Array Value) (Kz Z : Nat → Prop) (S Sp : List α → Prop) (w : World) : Prop :=
  ∀ (l : Nat) (J Jx : List α → Option Nat → World → Prop) (g0 : Option Nat) (W : World), Below w.heap.size w W → Abd Z W.heap.size J → Abd Z W.heap.size Jx → (∀ q, g0 = some q → ¬ Kz q ∧ q < W.heap.size) →
    (∀ m pre x g W1, J pre g W1 → Sp (pre ++ [x]) → YieldAt F m P l (encs x) W1 fun e W' => ∃ g', Spares (fun k => W.heap.size ≤ k ∨ Kz k) g g' W1 W' ∧
      ((e = .returned (.bool true) ∧ J (pre ++ [x]) g' W') ∨ (e = .returned (.bool false) ∧ Jx (pre ++ [x]) g' W'))) →
    J [] g0 W →
    CallsIn F n P gf (#[.func (.yield l) #[] #[]] ++ lb) W fun e W' => (∃ v, e = .returned v) ∧ ((∃ xs g, S xs ∧ J xs g W') ∨ (∃ pre g, Sp pre ∧ Jx pre g W'))
def leftO {α : Type} (K : Nat → Prop) (I : List α → Option Nat → World → Prop) (Ix : Code → List α → Option Nat → World → Prop) (xs : List α) (g : Option Nat) (W : World) : Exit → Act → World → Prop
  | .normal, _, W' => ∃ g', Spares K g g' W W' ∧ I xs g' W'
  | .ret, _, W' => ∃ g', Spares K g g' W W' ∧ Ix .ret xs g' W'
  | .exit id, _, W' => ∃ g', Spares K g g' W W' ∧ Ix (.exit id) xs g' W'
  | .goto t, _, W' => ∃ g', Spares K g g' W W' ∧ Ix (.goto t) xs g' W'
  | .panic _, _, _ => False
  | .outgrown, _, _ => False
theorem wpIn_range_own {F : Fence} {n : Nat} {P : Program} {α : Type} {f : Operand} {ps : Array Tmp} {assign body : Code} {Q : Exit → Act → World → Prop} {a : Act} {w : World}
    (hd : F.depth = none) (hro : F.round = none) (h1 : 1 ≤ n) {gf : Nat} {lb : Array Value} (hf : a.eval f = .func (.func gf) #[] lb) (hFg : F.fn gf) (eg : ∀ args w, (callFunc gf args).run P w = .ok (.enter gf args) w)
    {encs : α → Array Value} {Kz Z : Nat → Prop} {S Sp : List α → Prop} {w0 : World} (hseq : SeqO F (n - 1) P gf lb encs Kz Z S Sp w0)
    (hb0 : Below w0.heap.size w0 w) (hZ : ∀ r, Z r → r < w.heap.size) (hKz : ∀ r, Kz r → r < w.heap.size) (hps : ∀ x, (encs x).size = ps.size)
    (g0 : Option Nat) (hg0 : ∀ q, g0 = some q → ¬ Kz q ∧ q < w.heap.size) (I : List α → Option Nat → World → Prop) (Ix : Code → List α → Option Nat → World → Prop) (hI : Abd Z w.heap.size I) (hIx : ∀ c, Abd Z w.heap.size (Ix c)) (h0 : I [] g0 w)
    (hIg : ∀ pre g W q, I pre g W → g = some q → q < w.heap.size ∨ w.heap.size + 2 ≤ q) (hIxg : ∀ c pre g W q, Ix c pre g W → g = some q → q < w.heap.size ∨ w.heap.size + 2 ≤ q)
    (Ax : α → Act → World → Prop) (hAx : ∀ x a', Abd (fun _ => False) w.heap.size (fun (_ : Unit) (_ : Option Nat) W => Ax x a' W))
    (hassign : ∀ (l : Nat) (pre : List α) (x : α) (g : Option Nat) (W : World) (K : Act → World → Prop), I pre g W → (∀ a' W', Spares (fun k => w.heap.size ≤ k ∨ Kz k) g g W W' → I pre g W' → Ax x a' W' → K a' W') →
      assign.wpIn (F.inRound l) (n - 1 - 1) P (Exit.then K (fun _ _ _ => False)) { tmps := (ps.zip (encs x)).foldl (fun t (p, v) => t.setIfInBounds p v) a.tmps, defers := [] } W)
    (hbody : ∀ (l : Nat) (pre : List α) (x : α) (g : Option Nat) (a' : Act) (W : World), w.heap.size + 2 ≤ W.heap.size → I pre g W → Ax x a' W → Sp (pre ++ [x]) → body.wpIn (F.inRound l) (n - 1 - 1) P (leftO (fun k => w.heap.size ≤ k ∨ Kz k) I Ix (pre ++ [x]) g W) a' W)
    (hdone : ∀ (D : Nat) (xs : List α) (g : Option Nat) (W : World), D = w.heap.size → S xs → I xs g W → W.heap[D]? = some (.deferred (some [])) → Q .normal { a with defers := { target := .collected D, args := #[] } :: a.defers } W)
    (hstop : ∀ (D : Nat) (c : Code) (pre : List α) (g : Option Nat) (W : World), D = w.heap.size → Sp pre → Ix c pre g W → W.heap[D]? = some (.deferred (some [])) → c.wpIn F n P Q { a with defers := { target := .collected D, args := #[] } :: a.defers } W) :
    (Code.rangeFunc f ps assign body).wpIn F n P Q a w := by
  refine wpIn_rangeFunc ?_
  intro fn hfn
  rw [hro]
  obtain ⟨rec, hrec⟩ : ∃ rec : LoopState → Option Code → Loop, rec = fun st pe => { state := st, pending := pe, fn, tmps := a.tmps, params := ps, assign, body, defers := w.heap.size } := ⟨_, rfl⟩
  obtain ⟨W1, hW1⟩ : ∃ W1, (w.alloc (.deferred (some []))).alloc (.loop (rec .ready none)) = W1 := ⟨_, rfl⟩
  have hsz : W1.heap.size = w.heap.size + 2 := by rw [← hW1, World.size_alloc, World.size_alloc]
  have hL1 : W1.heap[w.heap.size + 1]? = some (.loop (rec .ready none)) := by
    rw [← hW1]; have := World.alloc_heap_new (w.alloc (.deferred (some []))) (.loop (rec .ready none)); rwa [World.size_alloc] at this
  have hK1 : W1.heap[w.heap.size]? = some (.deferred (some [])) := by
    rw [← hW1]; exact (Below.heap_alloc _ _ _ (by simp)).trans (World.alloc_heap_new w _)
  have hI1 : I [] g0 W1 := by rw [← hW1]; exact hI.alloc _ (hI.alloc _ h0)
  have hb1 : Below w0.heap.size w0 W1 := by
    rw [← hW1]; exact hb0.trans ((((Below.refl _ w).alloc (Nat.le_refl _) _).alloc (by simp) _).mono hb0.size)
  refine ⟨w.heap.size + 1, [{ target := .collected w.heap.size, args := #[] }], W1, { target := .fn (.func gf) lb, args := #[.func (.yield (w.heap.size + 1)) #[] #[]] }, W1, gf,
    #[.func (.yield (w.heap.size + 1)) #[] #[]] ++ lb, W1, ?_, ?_, ?_, ?_, fun _ => h1, ?_⟩
  · rw [← hW1, hrec]; exact run_enterLoop_outer _ _ _ _ _
  · simp only [resolve, hf]
    simp [go_sem]
  · intro f' hf'; simp [Target.leads] at hf'; subst hf'; exact hFg
  · simp [invoke, go_sem, eg]
  · -- which blocks the iterator turns, said of the caller's side
    have hrow : ∀ {g : Option Nat} {row : Option Nat}, (∀ r, row = some r → (W1.heap.size ≤ r ∧ some r ≠ g) ∨ Z r) → (∀ r, row = some r → (w.heap.size ≤ r ∧ some r ≠ g) ∨ Z r) :=
      fun hr r e => (hr r e).elim (fun k => .inl ⟨by have := k.1; omega, k.2⟩) .inr
    have hlies : ∀ {A C : World} {g : Option Nat} {row : Option Nat} {k : Nat} {o : Obj}, A.grownBy C row → (∀ r, row = some r → (W1.heap.size ≤ r ∧ some r ≠ g) ∨ Z r) → w.heap.size ≤ k → k < W1.heap.size → A.heap[k]? = some o → C.heap[k]? = some o :=
      fun hg' hr h2 h3 hk => (hg'.block _ (Array.getElem?_eq_some_iff.1 hk).1 (fun e => (hr _ e.symm).elim (fun k => by have := k.1; omega) (fun k => by have := hZ _ k; omega))).trans hk
    refine (hseq (w.heap.size + 1)
      (fun pre g W => I pre g W ∧ W.heap[w.heap.size + 1]? = some (.loop (rec .ready none)) ∧ W.heap[w.heap.size]? = some (.deferred (some [])))
      (fun pre g W => ∃ c, Ix c pre g W ∧ W.heap[w.heap.size + 1]? = some (.loop (rec .done (some c))) ∧ W.heap[w.heap.size]? = some (.deferred (some [])))
      g0 W1 hb1
      (fun s g A B row hs hg' hr => ⟨hI s g A B row hs.1 hg' (hrow hr), hlies hg' hr (by omega) (by omega) hs.2.1, hlies hg' hr (by omega) (by omega) hs.2.2⟩)
      (fun s g A B row hs hg' hr => by
        obtain ⟨c, hc, hl, hk⟩ := hs
        exact ⟨c, hIx c s g A B row hc hg' (hrow hr), hlies hg' hr (by omega) (by omega) hl, hlies hg' hr (by omega) (by omega) hk⟩)
      (fun q e => ⟨(hg0 q e).1, by have := (hg0 q e).2; omega⟩) ?_ ⟨hI1, hL1, hK1⟩).mono ?_
    · -- one round
      rintro m pre x g W ⟨hi, hl, hk⟩ hlen
      have hlt : w.heap.size + 1 < W.heap.size := (Array.getElem?_eq_some_iff.1 hl).1
      have hy := run_yield (P := P) (args := encs x) hl (by rw [hrec]; exact hps x)
      rw [hrec] at hy
      refine ⟨fn, _, assign, body, hy, round_any hd (m := n - 1 - 1) (roundIn_of_wpIn hfn (hassign _ pre x g W _ hi ?_))⟩
      clear hy
      intro a' Wa hsa hia hax
      have hgq : ∀ q, g = some q → q < w.heap.size ∨ w.heap.size + 2 ≤ q := fun q e => hIg pre g W q hi e
      have hl := (hsa.same _ (.inl (by omega)) hlt (fun e => by have := hgq _ e.symm; omega)).trans hl
      have hk := (hsa.same w.heap.size (.inl (Nat.le_refl _)) (by omega) (fun e => by have := hgq _ e.symm; omega)).trans hk
      have hlt2 : w.heap.size + 1 < Wa.heap.size := (Array.getElem?_eq_some_iff.1 hl).1
      refine ⟨_, run_beginRound hl (by rw [hrec]), ?_⟩
      obtain ⟨Wb, hWb⟩ : ∃ Wb, Wa.putObj (w.heap.size + 1) (.loop { rec .ready none with state := .busy }) = Wb := ⟨_, rfl⟩
      have hl2 : Wb.heap[w.heap.size + 1]? = some (.loop { rec .ready none with state := .busy }) := by rw [← hWb]; exact World.putObj_heap_same hlt2
      have hk2 : Wb.heap[w.heap.size]? = some (.deferred (some [])) := by rw [← hWb]; exact (World.putObj_heap_other (by omega)).trans hk
      have hne : some (w.heap.size + 1) ≠ g := fun e => by have := hgq _ e.symm; omega
      have hIb : I pre g Wb := by rw [← hWb]; exact hI.putObj _ hia (by omega) hne
      have hAb : Ax x a' Wb := by rw [← hWb]; exact (hAx x a').putObj (s := ()) (g := none) _ hax (by omega) (by simp)
      have hzz : ∀ k, (W1.heap.size ≤ k ∨ Kz k) → (w.heap.size ≤ k ∨ Kz k) := fun k h => h.elim (fun h => .inl (by omega)) .inr
      have hsb : Spares (fun k => W1.heap.size ≤ k ∨ Kz k) g g Wa Wb := by
        rw [← hWb]; exact Spares.turned (grownBy_putObj' _ _ _) (fun j e hj => by cases e; rcases hj with h | h; exact absurd h (by omega); have := hKz _ h; omega)
      have hs2 : Spares (fun k => W1.heap.size ≤ k ∨ Kz k) g g W Wb := (hsa.imp (fun k h _ => hzz k h)).trans hsb
      rw [hWb]
      refine wpIn_mono (hbody _ pre x g a' _ (Array.getElem?_eq_some_iff.1 hl2).1 hIb hAb hlen) ?_
      have fin : ∀ (jump : Option Code) (g' : Option Nat) (W3 : World), Spares (fun k => w.heap.size ≤ k ∨ Kz k) g g' Wb W3 →
          (Instr.endRound (w.heap.size + 1) jump).run P W3 = .ok (.bool jump.isNone) (W3.putObj (w.heap.size + 1) (.loop (rec (if jump.isNone then .ready else .done) jump))) ∧
          (W3.putObj (w.heap.size + 1) (.loop (rec (if jump.isNone then .ready else .done) jump))).heap[w.heap.size + 1]? = some (.loop (rec (if jump.isNone then .ready else .done) jump)) ∧
          (W3.putObj (w.heap.size + 1) (.loop (rec (if jump.isNone then .ready else .done) jump))).heap[w.heap.size]? = some (.deferred (some [])) ∧
          Spares (fun k => W1.heap.size ≤ k ∨ Kz k) g g' W (W3.putObj (w.heap.size + 1) (.loop (rec (if jump.isNone then .ready else .done) jump))) := fun jump g' W3 hk3 => by
        have hl3 := (hk3.same _ (.inl (by omega)) (Array.getElem?_eq_some_iff.1 hl2).1 hne).trans hl2
        have hk4 := (hk3.same w.heap.size (.inl (Nat.le_refl _)) (Array.getElem?_eq_some_iff.1 hk2).1 (fun e => by have := hgq _ e.symm; omega)).trans hk2
        have := run_endRound (P := P) jump hl3
        rw [hrec] at this ⊢
        exact ⟨this, World.putObj_heap_same (Array.getElem?_eq_some_iff.1 hl3).1, (World.putObj_heap_other (by omega)).trans hk4,
          hs2.trans ((hk3.imp (fun k h _ => hzz k h)).trans (Spares.turned (grownBy_putObj' _ _ _) (fun j e hj => by cases e; rcases hj with h | h; exact absurd h (by omega); have := hKz _ h; omega)))⟩
      have hng : ∀ {g' : Option Nat}, (∀ q, g' = some q → q < w.heap.size ∨ w.heap.size + 2 ≤ q) → some (w.heap.size + 1) ≠ g' := fun h e => by have := h _ e.symm; omega
      rintro e a3 W3 hp
      cases e with
      | normal =>
        obtain ⟨g', hk3, hi3⟩ := hp
        obtain ⟨hr, hl4, hk4, hs4⟩ := fin none g' W3 hk3
        exact ⟨_, _, hr, g', hs4, .inl ⟨rfl, hI.putObj _ hi3 (by omega) (hng (fun q e => hIg _ _ _ q hi3 e)), hl4, hk4⟩⟩
      | ret =>
        obtain ⟨g', hk3, hi3⟩ := hp
        obtain ⟨hr, hl4, hk4, hs4⟩ := fin (some .ret) g' W3 hk3
        exact ⟨_, _, hr, g', hs4, .inr ⟨rfl, .ret, (hIx _).putObj _ hi3 (by omega) (hng (fun q e => hIxg _ _ _ _ q hi3 e)), hl4, hk4⟩⟩
      | exit id =>
        obtain ⟨g', hk3, hi3⟩ := hp
        obtain ⟨hr, hl4, hk4, hs4⟩ := fin (some (.exit id)) g' W3 hk3
        exact ⟨_, _, hr, g', hs4, .inr ⟨rfl, .exit id, (hIx _).putObj _ hi3 (by omega) (hng (fun q e => hIxg _ _ _ _ q hi3 e)), hl4, hk4⟩⟩
      | goto t =>
        obtain ⟨g', hk3, hi3⟩ := hp
        obtain ⟨hr, hl4, hk4, hs4⟩ := fin (some (.goto t)) g' W3 hk3
        exact ⟨_, _, hr, g', hs4, .inr ⟨rfl, .goto t, (hIx _).putObj _ hi3 (by omega) (hng (fun q e => hIxg _ _ _ _ q hi3 e)), hl4, hk4⟩⟩
      | panic ch => exact hp.elim
      | outgrown => exact hp.elim
    · -- behind the iterator
      rintro e W2 ⟨⟨v, rfl⟩, (⟨xs, g, hS, hi, hl, hk⟩ | ⟨pre, g, hSp, c, hi, hl, hk⟩)⟩
      · exact ⟨none, _, by have := run_endLoop (P := P) hl (by rw [hrec]; simp); rw [hrec] at this; exact this, hdone _ xs g _ rfl hS (hI.putObj _ hi (by omega) (fun e => by have := hIg _ _ _ _ hi e.symm; omega)) ((World.putObj_heap_other (by omega)).trans hk)⟩
      · exact ⟨some c, _, by have := run_endLoop (P := P) hl (by rw [hrec]; simp); rw [hrec] at this; exact this, hstop _ c pre g _ rfl hSp ((hIx c).putObj _ hi (by omega) (fun e => by have := hIxg _ _ _ _ _ hi e.symm; omega)) ((World.putObj_heap_other (by omega)).trans hk)⟩
structure Lies (K : Nat → Prop) (W W' : World) : Prop where
  size : W.heap.size ≤ W'.heap.size
  same : ∀ k, K k → k < W.heap.size → W'.heap[k]? = W.heap[k]?
theorem Lies.refl (K : Nat → Prop) (W : World) : Lies K W W := ⟨Nat.le_refl _, fun _ _ _ => rfl⟩
theorem Lies.trans {K : Nat → Prop} {A B C : World} (h : Lies K A B) (h' : Lies K B C) : Lies K A C := ⟨Nat.le_trans h.size h'.size, fun k hk hlt => (h'.same k hk (Nat.lt_of_lt_of_le hlt h.size)).trans (h.same k hk hlt)⟩
theorem Lies.below {K : Nat → Prop} {A B : World} (h : Below A.heap.size A B) : Lies K A B := ⟨h.size, fun k _ hk => h.block k hk⟩
theorem Lies.imp {K K' : Nat → Prop} {A B : World} (h : Lies K A B) (hk : ∀ k, K' k → K k) : Lies K' A B := ⟨h.size, fun k a => h.same k (hk k a)⟩
theorem Lies.grown {K : Nat → Prop} {A B : World} {row : Option Nat} (h : A.grownBy B row) (hr : ∀ r, row = some r → ¬ K r) : Lies K A B := ⟨h.size, fun k hk hlt => h.block k hlt (fun e => hr k e.symm hk)⟩
theorem Spares.lies {K K' : Nat → Prop} {g g' : Option Nat} {A B : World} (h : Spares K g g' A B) (hk : ∀ k, K' k → k < A.heap.size → K k ∧ some k ≠ g) : Lies K' A B := ⟨h.size, fun k a b => h.same k (hk k a b).1 b (hk k a b).2⟩
theorem Lies.cell {K : Nat → Prop} {A B : World} (h : Lies K A B) {p : Addr} {v : Value} (hk : K p.block) (hc : A.cell? p = some v) : B.cell? p = some v :=
  (World.cell?_of_block (h.same p.block hk (World.block_lt_of_cell? A p hc))).trans hc
theorem Lies.box {K : Nat → Prop} {A B : World} (h : Lies K A B) {b : Nat} {t : TypeId} {v : Value} (hk : K b) (hc : Boxed A b t v) : Boxed B b t v := (h.same b hk hc.lt).trans hc
theorem Spares.lt {K : Nat → Prop} {g g' : Option Nat} {A B : World} (h : Spares K g g' A B) (hg : ∀ q, g = some q → q < A.heap.size) : ∀ q, g' = some q → q < B.heap.size := by
  intro q e
  rcases h.own with e' | ⟨b, e', hb, hb2⟩
  · exact Nat.lt_of_lt_of_le (hg q (e' ▸ e)) h.size
  · rw [e] at e'; cases e'; exact hb2
theorem Spares.not {K Kz : Nat → Prop} {g g' : Option Nat} {A B : World} (h : Spares K g g' A B) (hn : ∀ k, Kz k → k < A.heap.size) (hg : ∀ q, g = some q → ¬ Kz q) : ∀ q, g' = some q → ¬ Kz q := by
  intro q e
  rcases h.own with e' | ⟨b, e', hb, _⟩
  · exact hg q (e' ▸ e)
  · rw [e] at e'; cases e'
    intro hk
    have := hn q hk
    omega
theorem Spares.ge {K : Nat → Prop} {g g' : Option Nat} {A B : World} {n : Nat} (h : Spares K g g' A B) (hn : n ≤ A.heap.size) (hg : ∀ q, g = some q → n ≤ q) : ∀ q, g' = some q → n ≤ q := by
  intro q e
  rcases h.own with e' | ⟨b, e', hb, _⟩
  · exact hg q (e' ▸ e)
  · rw [e] at e'; cases e'; omega
theorem collected {K : Nat → Prop} {W w1 : World} {n₀ B : Nat} {t e : TypeId} {size : Nat} {v v1 : Value} {k m : Nat} {xs ys : List Value}
    (hv : Boxed W B t v) (hte : t ≠ e) (hrow : W.ownsRow n₀ e size v k xs) (hKB : ¬ K B) (hB : n₀ ≤ B)
    (hown' : w1.ownsRow n₀ e size v1 m ys) (hg : W.grownBy w1 v.ownBlock) (hat : v1.ownBlock = v.ownBlock ∨ ∃ b, v1.ownBlock = some b ∧ W.heap.size ≤ b) :
    Boxed w1 B t v ∧ Boxed (w1.setCell ⟨B, 0, none⟩ v1) B t v1 ∧ (w1.setCell ⟨B, 0, none⟩ v1).ownsRow n₀ e size v1 m ys ∧ Spares K v.ownBlock v1.ownBlock W (w1.setCell ⟨B, 0, none⟩ v1) ∧ Below n₀ W (w1.setCell ⟨B, 0, none⟩ v1) := by
  have hv1 : Boxed w1 B t v := hv.kept hg (hv.not_row hte hrow)
  have hlt1 : ∀ b, v1.ownBlock = some b → b < (w1.setCell ⟨B, 0, none⟩ v1).heap.size := fun b e => by
    have h2 := (grownBy_setCell' w1 B v1).size
    rcases hown'.2 with ⟨rfl, _⟩ | ⟨g, cap, cur, rfl, _, hh, _⟩
    · simp [Value.ownBlock] at e
    · obtain rfl : g = b := by simpa [Value.ownBlock] using e
      exact Nat.lt_of_lt_of_le (Array.getElem?_eq_some_iff.1 hh).1 h2
  refine ⟨hv1, hv1.set v1, hown'.kept (grownBy_setCell' w1 B v1) (.inr (hv1.not_row hte hown').symm), ⟨?_, hat.imp id (fun ⟨b, e, hb⟩ => ⟨b, e, hb, hlt1 b e⟩), ?_⟩, ?_⟩
  · exact Nat.le_trans hg.size (grownBy_setCell' w1 B v1).size
  · intro k hk hlt hne
    refine ((grownBy_setCell' w1 B v1).block k (Nat.lt_of_lt_of_le hlt hg.size) (fun e => ?_)).trans (hg.block k hlt hne)
    cases e
    exact hKB hk
  · refine ((Below.refl n₀ W).grown hg (Nat.le_trans hB (Nat.le_of_lt hv.lt)) fun j ej => ?_).setCell (p := ⟨B, 0, none⟩) hB v1
    rcases hrow.2 with ⟨rfl, _⟩ | ⟨g, cap, cur, rfl, hb, _, _⟩
    · simp [Value.ownBlock] at ej
    · obtain rfl : g = j := by simpa [Value.ownBlock] using ej
      exact hb
end Go.Proofs.YtmmbpbgcobmifaaGreatDoorH
end
section
namespace Go.Proofs.YtmmbpbgcobmifaaGreatDoorH
open Go.RowKit Go.Proofs.YtmmbpbgcobmifaaGreatDoorW.PrintWords Go.Proofs.YtmmbpbgcobmifaaGreatDoorW.PrintLast Go.Proofs.YtmmbpbgcobmifaaGreatDoorW.PrintMore
theorem TabOk.lies {w A C : World} {K : Nat → Prop} (hw : TabOk w) (hA : Lies (fun k => k < w.heap.size) w A) (hK : ∀ k, k < w.heap.size → K k) (h : Lies K A C) : TabOk C := by
  have hc : ∀ {p : Addr} {v : Value}, w.cell? p = some v → C.cell? p = some v := fun {p v} hp =>
    h.cell (hK p.block (World.block_lt_of_cell? w p hp)) (hA.cell (World.block_lt_of_cell? w p hp) hp)
  refine ⟨hc hw.c0, hc hw.c1, hc hw.c2, hc hw.c3, hc hw.c4, hc hw.c5, ?_⟩
  obtain ⟨m, hm⟩ := hw.mx
  exact ⟨m, hc hm⟩
end Go.Proofs.YtmmbpbgcobmifaaGreatDoorH
end
section
namespace Go.Proofs.YtmmbpbgcobmifaaGreatDoorH
open Go.RowKit Go.Proofs.YtmmbpbgcobmifaaGreatDoorW.PrintWords Go.Proofs.YtmmbpbgcobmifaaGreatDoorW.PrintLast Go.Proofs.YtmmbpbgcobmifaaGreatDoorW.PrintMore
def allB (p : Int → Bool) (s : ByteArray) : Bool := s.data.toList.all fun c => p c.toNat
theorem bt_nat (s : ByteArray) (k : Nat) (h : k < s.size) : bt s (k : Int) = ((s.data.toList.getD k 0).toNat : Int) := by
  have h' : k < s.data.toList.length := by rw [data_length]; exact h
  rw [← rd_bytesOf]
  simp [rd, bytesOf, List.getD_eq_getElem?_getD, List.getElem?_eq_getElem h']
theorem allB_of (p : Int → Bool) (s : ByteArray) (h : ∀ k : Nat, k < s.size → p (bt s k) = true) : allB p s = true := by
  unfold allB
  rw [List.all_eq_true]
  intro c hc
  obtain ⟨k, hk, rfl⟩ := List.mem_iff_getElem.1 hc
  have hk' : k < s.size := by rw [data_length] at hk; exact hk
  have := h k hk'
  rw [bt_nat s k hk'] at this
  rw [List.getD_eq_getElem?_getD, List.getElem?_eq_getElem hk] at this
  exact this
theorem allB_not (p : Int → Bool) (s : ByteArray) (k : Nat) (hk : k < s.size) (h : p (bt s k) = false) : allB p s = false := by
  unfold allB
  rw [List.all_eq_false]
  have hk' : k < s.data.toList.length := by rw [data_length]; exact hk
  refine ⟨s.data.toList[k], List.getElem_mem hk', ?_⟩
  rw [bt_nat s k hk, List.getD_eq_getElem?_getD, List.getElem?_eq_getElem hk'] at h
  simpa using h
theorem bytes_cell (w : World) (e : TypeId) (s : ByteArray) (k : Nat) (hk : k < s.size) {wr : World} (hb : Below (Lib.bytesWorld w e s).heap.size (Lib.bytesWorld w e s) wr) :
    wr.cell? ⟨w.heap.size, k, none⟩ = some (.int .u8 (bt s k)) := by
  rw [hb.cell (p := ⟨w.heap.size, k, none⟩) (by rw [Lib.bytesWorld_size]; simp), Lib.bytesWorld_cell w e s k hk, bt_nat s k hk]
theorem all_step {s : ByteArray} {p : Int → Bool} {k : Nat} (h : ∀ j : Nat, j < k → p (bt s j) = true) (hk : p (bt s k) = true) : ∀ j : Nat, j < k + 1 → p (bt s j) = true := by
  intro j hj
  rcases Nat.lt_succ_iff_lt_or_eq.1 hj with h1 | h1
  · exact h j h1
  · subst h1
    exact hk
set_option maxHeartbeats 800000 in
set_option maxRecDepth 100000 in
theorem all_calls (F : Nat) (p : Int → Bool) (s : ByteArray) (w : World) (hs : s.size ≤ 140737488355328) (hG : TabOk w)
    (eg : ∀ args w, (callFunc F args).run Tryz.prog w = .ok (.enter F args) w)
    (hF : ∀ (c : Int) (w : World), TabOk w → 0 ≤ c → c ≤ 255 → Calls Tryz.prog F #[.int .u8 c] w fun e w' => e = .returned (.bool (p c)) ∧ Below w.heap.size w w') :
    Calls Tryz.prog 73 #[.string s, .func (.func F) #[] #[]] w fun e w' => e = .returned (.bool (allB p s)) ∧ Below w.heap.size w w' := by
  have kb := fun W => print_bytes (P := Tryz.prog) 9 25 5 Tryz.underlying9 Tryz.underlying25 Tryz.underlying5 s W
  have HB0 := Aside0.mk (bytes_below (Below.refl w.heap.size w) (Nat.le_refl _) 5 s)
  have HF := Aside0.mk hF
  have HG := Aside0.mk hG
  clear hF hG
  go_enter Tryz.func73, Tryz.ntmps73
  go_wp2
  clear kb
  go_loopw [10] (fun i wr => ∃ k : Nat, k ≤ s.size ∧ i = .int .i64 k ∧ Aside0 (∀ j : Nat, j < k → p (bt s j) = true) ∧ Aside0 (Below (Lib.bytesWorld w 5 s).heap.size (Lib.bytesWorld w 5 s) wr)) (fun i _ => s.size - (intOf i).toNat)
  case atStart => exact ⟨0, Nat.zero_le _, rfl, ⟨fun j h => by omega⟩, ⟨Below.refl _ _⟩⟩
  case round =>
    obtain ⟨k, hk, rfl, hall, hb⟩ := hrel
    by_cases hlt : k < s.size
    · have hc := bytes_cell w 5 s k hlt hb.out
      have hr := bt_range s k
      have hGr := Aside0.mk ((HG.out.below HB0.out).below hb.out)
      go_wp2_with fail
      refine (HF.out _ _ hGr.out (by omega) (by omega)).mono ?_
      rintro e w' ⟨rfl, hb'⟩
      have HB' := Aside0.mk hb'
      clear hb'
      cases hp : p (bt s k) with
      | true =>
        go_wp2
        go_roundw
        case rel => exact ⟨k + 1, by omega, by go_num, ⟨all_step hall.out hp⟩, ⟨hb.out.trans (HB'.out.mono hb.out.size)⟩⟩
        case measure => simp [intOf]; omega
      | false =>
        go_wp2
        go_ret
        exact ⟨by rw [allB_not p s k hlt hp]; rfl, HB0.out.trans ((hb.out.trans (HB'.out.mono hb.out.size)).mono HB0.out.size)⟩
    · go_wp2
      go_ret
      exact ⟨by rw [allB_of p s (fun j hj => hall.out j (by omega))]; rfl, HB0.out.trans (hb.out.mono HB0.out.size)⟩
def blankI (c : Int) : Bool := (c == 32) || (c == 9)
def textI (c : Int) : Bool := blankI c || (decide (c > 32) && (c != 127))
set_option maxHeartbeats 800000 in
set_option maxRecDepth 100000 in
theorem blank_calls (c : Int) (w : World) (h0 : 0 ≤ c) (h1 : c ≤ 255) :
    Calls Tryz.prog 75 #[.int .u8 c] w fun e w' => e = .returned (.bool (blankI c)) ∧ Below w.heap.size w w' := by
  have hb : blankI c = ((c == 32) || (c == 9)) := rfl
  by_cases h32 : c = 32
  · subst h32
    go_enter Tryz.func75, Tryz.ntmps75
    go_wp2
    go_ret
    exact ⟨rfl, Below.refl _ _⟩
  · have hx : (c == 32) = false := beq_eq_false_iff_ne.mpr h32
    rw [hx, Bool.false_or] at hb
    have HB := Aside0.mk hb
    clear hb
    go_enter Tryz.func75, Tryz.ntmps75
    go_wp2
    go_ret
    exact ⟨by rw [HB.out]; rfl, Below.refl _ _⟩
set_option maxHeartbeats 800000 in
set_option maxRecDepth 100000 in
theorem text1_calls (c : Int) (w : World) (h0 : 0 ≤ c) (h1 : c ≤ 255) :
    Calls Tryz.prog 74 #[.int .u8 c] w fun e w' => e = .returned (.bool (textI c)) ∧ Below w.heap.size w w' := by
  have hb : textI c = (blankI c || (decide (c > 32) && (c != 127))) := rfl
  have HB := Aside0.mk hb
  clear hb
  have hbl := Aside0.mk (fun w => blank_calls c w h0 h1)
  go_enter Tryz.func74, Tryz.ntmps74
  go_wp2_with fail
  refine (hbl.out _).mono ?_
  rintro e w' ⟨rfl, hw⟩
  have HW := Aside0.mk hw
  clear hw
  cases hp : blankI c with
  | true =>
    go_wp2
    go_ret
    exact ⟨by rw [HB.out, hp]; rfl, HW.out⟩
  | false =>
    rw [hp, Bool.false_or] at HB
    go_wp2
    all_goals go_ret
    all_goals (refine ⟨?_, HW.out⟩; rw [HB.out]; first | (simp [*]; done) | (simp; omega))
def otherL : List Int := [33, 35, 36, 37, 38, 39, 42, 43, 45, 46, 94, 95, 96, 124, 126]
def alnumI (c : Int) : Bool := decide (48 ≤ c ∧ c ≤ 57) || decide (65 ≤ c ∧ c ≤ 90) || decide (97 ≤ c ∧ c ≤ 122)
def tokI (c : Int) : Bool := alnumI c || otherL.contains c
theorem alnumI_1 {c : Int} (h : 48 ≤ c ∧ c ≤ 57) : tokI c = true := by simp [tokI, alnumI, h]
theorem alnumI_2 {c : Int} (h : 65 ≤ c ∧ c ≤ 90) : tokI c = true := by simp [tokI, alnumI, h]
theorem alnumI_3 {c : Int} (h : 97 ≤ c ∧ c ≤ 122) : tokI c = true := by simp [tokI, alnumI, h]
theorem alnumI_4 {c : Int} (h : ¬ (48 ≤ c ∧ c ≤ 57)) (h2 : ¬ (65 ≤ c ∧ c ≤ 90)) (h3 : ¬ (97 ≤ c ∧ c ≤ 122)) : tokI c = otherL.contains c := by simp [tokI, alnumI, h, h2, h3]
theorem indexByte_nonneg (l : List UInt8) (c : UInt8) : decide (0 ≤ Lib.indexByte l c) = l.contains c := by
  induction l with
  | nil => rfl
  | cons b l ih =>
    unfold Lib.indexByte
    by_cases h : b == c
    · rw [if_pos h]
      have : (b :: l).contains c = true := by simp at h; simp [h]
      rw [this]; rfl
    · rw [if_neg h]
      have hc : (b :: l).contains c = l.contains c := by
        have h' : ¬ c = b := by intro e; apply h; simp [e]
        simp [h']
      rw [hc, ← ih]
      have := Lib.indexByte_ge l c
      by_cases h2 : Lib.indexByte l c == -1
      · rw [if_pos h2]
        have h2' : Lib.indexByte l c = -1 := by simpa using h2
        rw [h2']
      · rw [if_neg h2]
        have h2' : Lib.indexByte l c ≠ -1 := by simpa using h2
        rw [decide_eq_decide]
        omega
set_option maxHeartbeats 800000 in
set_option maxRecDepth 100000 in
theorem sliteIndexByte_calls (s : ByteArray) (c : Int) (w : World) :
    Calls Tryz.prog 100 #[.string s, .int .u8 c] w fun e w' => e = .returned (.int .i64 (Lib.indexByte s.data.toList c.toNat.toUInt8)) ∧ w' = w := by
  go_enter Tryz.func100, Tryz.ntmps100
  go_wp2
  rw [run_callFunc_extern Tryz.func109 (by kernel_rfl) (by kernel_rfl) (by kernel_rfl) (e := Extern.BytealgIndexByte.indexByte) (by kernel_rfl), Lib.run_indexByteString]
  simp only [Result.andThen]
  rw [Oper.upon_value]
  go_wp2
  go_ret
  exact ⟨rfl, rfl⟩
set_option maxHeartbeats 800000 in
set_option maxRecDepth 100000 in
theorem stringsIndexByte_calls (s : ByteArray) (c : Int) (w : World) :
    Calls Tryz.prog 92 #[.string s, .int .u8 c] w fun e w' => e = .returned (.int .i64 (Lib.indexByte s.data.toList c.toNat.toUInt8)) ∧ w' = w := by
  have H := Aside0.mk (sliteIndexByte_calls s c)
  go_enter Tryz.func92, Tryz.ntmps92
  go_wp2_with fail
  refine (H.out _).mono ?_
  rintro e w' ⟨rfl, rfl⟩
  go_wp2
  go_ret
  exact ⟨rfl, rfl⟩
theorem other_contains (c : Int) (h0 : 0 ≤ c) (h1 : c ≤ 255) : decide (0 ≤ Lib.indexByte (⟨#[33, 35, 36, 37, 38, 39, 42, 43, 45, 46, 94, 95, 96, 124, 126]⟩ : ByteArray).data.toList c.toNat.toUInt8) = otherL.contains c := by
  rw [indexByte_nonneg]
  obtain ⟨n, rfl⟩ := Int.eq_ofNat_of_zero_le h0
  have hn : n < 256 := by omega
  rw [Int.toNat_natCast]
  unfold otherL
  have : ∀ n : Fin 256, [33, 35, 36, 37, 38, 39, 42, 43, 45, 46, 94, 95, 96, 124, 126].contains n.val.toUInt8 = ([33, 35, 36, 37, 38, 39, 42, 43, 45, 46, 94, 95, 96, 124, 126] : List Int).contains (n.val : Int) := by decide +kernel
  exact this ⟨n, hn⟩
set_option maxHeartbeats 800000 in
set_option maxRecDepth 100000 in
theorem token1_calls (c : Int) (w : World) (hG : TabOk w) (h0 : 0 ≤ c) (h1 : c ≤ 255) :
    Calls Tryz.prog 91 #[.int .u8 c] w fun e w' => e = .returned (.bool (tokI c)) ∧ Below w.heap.size w w' := by
  obtain ⟨g0, g1, g2, g3, g4, g5⟩ := hG
  go_enter Tryz.func91, Tryz.ntmps91
  go_wp2
  clear g0 g1 g2 g3 g4 g5
  have i0 : ∀ w, (Instr.index 151 (.agg #[.int .u8 48, .int .u8 57, .int .u8 65, .int .u8 90, .int .u8 97, .int .u8 122]) (.int .i64 0)).run Tryz.prog w = .ok (.agg #[.int .u8 48, .int .u8 57]) w := fun _ => by kernel_rfl
  have i1 : ∀ w, (Instr.index 151 (.agg #[.int .u8 48, .int .u8 57, .int .u8 65, .int .u8 90, .int .u8 97, .int .u8 122]) (.int .i64 1)).run Tryz.prog w = .ok (.agg #[.int .u8 65, .int .u8 90]) w := fun _ => by kernel_rfl
  have i2 : ∀ w, (Instr.index 151 (.agg #[.int .u8 48, .int .u8 57, .int .u8 65, .int .u8 90, .int .u8 97, .int .u8 122]) (.int .i64 2)).run Tryz.prog w = .ok (.agg #[.int .u8 97, .int .u8 122]) w := fun _ => by kernel_rfl
  go_loopw [6] (fun i wr => ∃ k : Nat, k ≤ 3 ∧ i = .int .i64 k ∧ Aside0 ((0 < k → ¬ (48 ≤ c ∧ c ≤ 57)) ∧ (1 < k → ¬ (65 ≤ c ∧ c ≤ 90)) ∧ (2 < k → ¬ (97 ≤ c ∧ c ≤ 122))) ∧ Aside0 (Below w.heap.size w wr)) (fun i _ => 3 - (intOf i).toNat)
  case atStart => exact ⟨0, by omega, rfl, ⟨by omega⟩, ⟨Below.refl _ _⟩⟩
  case round =>
    obtain ⟨k, hk, rfl, hall, hb⟩ := hrel
    have hk' : k = 0 ∨ k = 1 ∨ k = 2 ∨ k = 3 := by omega
    rcases hk' with rfl | rfl | rfl | rfl
    · by_cases hc : 48 ≤ c ∧ c ≤ 57
      · obtain ⟨ha, hb1⟩ := hc
        go_wp2
        go_ret
        exact ⟨by rw [alnumI_1 ⟨ha, hb1⟩]; rfl, hb.out.alloc hb.out.size _⟩
      · have HC := Aside0.mk hc
        by_cases ha : 48 ≤ c
        · have hb1 : 57 < c := by omega
          clear hc
          go_wp2
          go_roundw
          case rel => exact ⟨1, by omega, by go_num, ⟨⟨fun _ => HC.out, by omega⟩⟩, ⟨hb.out.alloc hb.out.size _⟩⟩
          case measure => simp [intOf]
        · have hb1 : c < 48 := by omega
          clear hc ha
          go_wp2
          go_roundw
          case rel => exact ⟨1, by omega, by go_num, ⟨⟨fun _ => HC.out, by omega⟩⟩, ⟨hb.out.alloc hb.out.size _⟩⟩
          case measure => simp [intOf]
    · by_cases hc : 65 ≤ c ∧ c ≤ 90
      · obtain ⟨ha, hb1⟩ := hc
        go_wp2
        go_ret
        exact ⟨by rw [alnumI_2 ⟨ha, hb1⟩]; rfl, hb.out.alloc hb.out.size _⟩
      · have HC := Aside0.mk hc
        by_cases ha : 65 ≤ c
        · have hb1 : 90 < c := by omega
          clear hc
          go_wp2
          go_roundw
          case rel => exact ⟨2, by omega, by go_num, ⟨⟨fun _ => hall.out.1 (by omega), fun _ => HC.out, by omega⟩⟩, ⟨hb.out.alloc hb.out.size _⟩⟩
          case measure => simp [intOf]
        · have hb1 : c < 65 := by omega
          clear hc ha
          go_wp2
          go_roundw
          case rel => exact ⟨2, by omega, by go_num, ⟨⟨fun _ => hall.out.1 (by omega), fun _ => HC.out, by omega⟩⟩, ⟨hb.out.alloc hb.out.size _⟩⟩
          case measure => simp [intOf]
    · by_cases hc : 97 ≤ c ∧ c ≤ 122
      · obtain ⟨ha, hb1⟩ := hc
        go_wp2
        go_ret
        exact ⟨by rw [alnumI_3 ⟨ha, hb1⟩]; rfl, hb.out.alloc hb.out.size _⟩
      · have HC := Aside0.mk hc
        by_cases ha : 97 ≤ c
        · have hb1 : 122 < c := by omega
          clear hc
          go_wp2
          go_roundw
          case rel => exact ⟨3, by omega, by go_num, ⟨⟨fun _ => hall.out.1 (by omega), fun _ => hall.out.2.1 (by omega), fun _ => HC.out⟩⟩, ⟨hb.out.alloc hb.out.size _⟩⟩
          case measure => simp [intOf]
        · have hb1 : c < 97 := by omega
          clear hc ha
          go_wp2
          go_roundw
          case rel => exact ⟨3, by omega, by go_num, ⟨⟨fun _ => hall.out.1 (by omega), fun _ => hall.out.2.1 (by omega), fun _ => HC.out⟩⟩, ⟨hb.out.alloc hb.out.size _⟩⟩
          case measure => simp [intOf]
    · have H := Aside0.mk (stringsIndexByte_calls)
      have HO := Aside0.mk (other_contains c h0 h1)
      go_wp2_with fail
      refine (H.out _ _ _).mono ?_
      rintro e w' ⟨rfl, rfl⟩
      go_wp2
      go_ret
      refine ⟨?_, hb.out⟩
      rw [alnumI_4 (hall.out.1 (by omega)) (hall.out.2.1 (by omega)) (hall.out.2.2 (by omega)), ← HO.out]
      rfl
set_option maxHeartbeats 800000 in
set_option maxRecDepth 100000 in
theorem text_calls (s : ByteArray) (w : World) (hs : s.size ≤ 140737488355328) (hG : TabOk w) :
    Calls Tryz.prog 60 #[.string s] w fun e w' => e = .returned (.bool (allB textI s)) ∧ Below w.heap.size w w' := by
  have H := Aside0.mk (all_calls 74 textI s w hs hG (enters_ Tryz.func74 (by kernel_rfl) rfl) (fun c w _ h0 h1 => text1_calls c w h0 h1))
  go_enter Tryz.func60, Tryz.ntmps60
  go_wp2_with fail
  refine H.out.mono ?_
  rintro e w' ⟨rfl, hb⟩
  have HB := Aside0.mk hb
  clear hb
  go_wp2
  go_ret
  exact ⟨rfl, HB.out⟩
def tokB (s : ByteArray) : Bool := !(s.data.toList.isEmpty) && allB tokI s
set_option maxHeartbeats 800000 in
set_option maxRecDepth 100000 in
theorem token_calls (s : ByteArray) (w : World) (hs : s.size ≤ 140737488355328) (hG : TabOk w) :
    Calls Tryz.prog 76 #[.string s] w fun e w' => e = .returned (.bool (tokB s)) ∧ Below w.heap.size w w' := by
  have H := Aside0.mk (all_calls 91 tokI s w hs hG (enters_ Tryz.func91 (by kernel_rfl) rfl) (fun c w hG h0 h1 => token1_calls c w hG h0 h1))
  have HT := Aside0.mk (show tokB s = (!(s.data.toList.isEmpty) && allB tokI s) from rfl)
  clear hG
  rw [← ByteArray.toList_eq] at HT
  cases hE : s.toList.isEmpty with
  | true =>
    rw [hE] at HT
    have hE' : s.toList = [] := by simpa using hE
    go_enter Tryz.func76, Tryz.ntmps76
    go_wp2
    go_ret
    exact ⟨by rw [HT.out]; rfl, Below.refl _ _⟩
  | false =>
    rw [hE] at HT
    have hE' : ¬ s.toList = [] := by simpa using hE
    go_enter Tryz.func76, Tryz.ntmps76
    go_wp2_with fail
    refine H.out.mono ?_
    rintro e w' ⟨rfl, hb⟩
    have HB := Aside0.mk hb
    clear hb
    go_wp2
    go_ret
    exact ⟨by rw [HT.out]; rfl, HB.out⟩
end Go.Proofs.YtmmbpbgcobmifaaGreatDoorH
end
section
namespace Go.Proofs.YtmmbpbgcobmifaaGreatDoorH
open Go.RowKit Go.Proofs.YtmmbpbgcobmifaaGreatDoorW.PrintWords Go.Proofs.YtmmbpbgcobmifaaGreatDoorW.PrintLast Go.Proofs.YtmmbpbgcobmifaaGreatDoorW.PrintMore
def smallI (c : Int) : Int := if 65 ≤ c ∧ c ≤ 90 then c + 32 else c
def smallL (s : ByteArray) : List Int := (bytesOf s).map smallI
def smallS (s : ByteArray) : ByteArray := strOfNums (smallL s)
structure SmallAt (w : World) (s : ByteArray) (k : Nat) (wr : World) : Prop where
  below : Below w.heap.size w wr
  size : w.heap.size < wr.heap.size
  low : ∀ j : Nat, j < k → wr.cell? ⟨w.heap.size, j, none⟩ = some (.int .u8 (smallI (bt s j)))
  high : ∀ j : Nat, k ≤ j → j < s.size → wr.cell? ⟨w.heap.size, j, none⟩ = some (.int .u8 (bt s j))
  free : ∀ j : Nat, j < s.size → wr.frozen? ⟨w.heap.size, j, none⟩ = false
theorem SmallAt.same {w : World} {s : ByteArray} {k : Nat} {wr : World} (h : SmallAt w s k wr) (hk : k < s.size) (hs : smallI (bt s k) = bt s k) : SmallAt w s (k + 1) wr := by
  refine ⟨h.below, h.size, fun j hj => ?_, fun j h1 h2 => h.high j (by omega) h2, h.free⟩
  rcases Nat.lt_succ_iff_lt_or_eq.1 hj with h1 | h1
  · exact h.low j h1
  · subst h1; rw [hs]; exact h.high j (Nat.le_refl _) hk
theorem SmallAt.put {w : World} {s : ByteArray} {k : Nat} {wr : World} (h : SmallAt w s k wr) (hk : k < s.size) {v : Int} (hv : v = smallI (bt s k)) : SmallAt w s (k + 1) (wr.setCell ⟨w.heap.size, k, none⟩ (.int .u8 v)) := by
  subst hv
  have hc := h.high k (Nat.le_refl _) hk
  refine ⟨h.below.setCell (p := ⟨w.heap.size, k, none⟩) (Nat.le_refl _) _, by simpa using h.size, fun j hj => ?_, fun j h1 h2 => ?_, fun j hj => by rw [World.frozen?_setCell]; exact h.free j hj⟩
  · rcases Nat.lt_succ_iff_lt_or_eq.1 hj with h1 | h1
    · rw [World.cell?_setCell_other _ _ _ _ (by intro e; injection e with _ e2; omega)]
      exact h.low j h1
    · subst h1
      exact World.cell?_setCell_same' _ _ _ (by rw [hc]; rfl)
  · rw [World.cell?_setCell_other _ _ _ _ (by intro e; injection e with _ e2; omega)]
    exact h.high j (by omega) h2
end Go.Proofs.YtmmbpbgcobmifaaGreatDoorH
end
section
namespace Go.Proofs.YtmmbpbgcobmifaaGreatDoorH
open Go.RowKit Go.Proofs.YtmmbpbgcobmifaaGreatDoorW.PrintWords Go.Proofs.YtmmbpbgcobmifaaGreatDoorW.PrintLast Go.Proofs.YtmmbpbgcobmifaaGreatDoorW.PrintMore
def trimL (l : List UInt8) : List UInt8 := Lib.trimS l [32, 9]
def trimS (s : ByteArray) : ByteArray := ⟨(trimL s.data.toList).toArray⟩
set_option maxHeartbeats 800000 in
set_option maxRecDepth 100000 in
theorem trim_calls (s : ByteArray) (w : World) (hs : s.size ≤ 140737488355328) :
    Calls Tryz.prog 79 #[.string s] w fun e w' => e = .returned (.string (trimS s)) ∧ Below w.heap.size w w' := by
  have H := Aside0.mk (Any.strings_Trim_laid Tryz.lays160 (by kernel_rfl) s ⟨#[32, 9]⟩ w (by omega) (by decide) (ascii_of_all (by decide)))
  go_enter Tryz.func79, Tryz.ntmps79
  go_wp2_with fail
  refine H.out.mono ?_
  rintro e w' ⟨rfl, hb⟩
  have HB := Aside0.mk hb
  clear hb
  go_wp2
  go_ret
  exact ⟨rfl, HB.out⟩
def octet_Text.f (a0 : ByteArray) : Option Bool := if a0.size ≤ 140737488355328 then some (allB textI a0) else none
theorem octet_Text.calls (a0 : ByteArray) (r : Bool) (w : World) (hG : TabOk w) (h : octet_Text.f a0 = some r) :
    Calls Tryz.prog 60 #[.string a0] w fun e w' => e = .returned (.bool r) ∧ Below w.heap.size w w' := by
  unfold octet_Text.f at h
  split at h
  · injection h with h; subst h; exact text_calls a0 w (by assumption) hG
  · cases h
def octet_Token.f (a0 : ByteArray) : Option Bool := if a0.size ≤ 140737488355328 then some (tokB a0) else none
theorem octet_Token.calls (a0 : ByteArray) (r : Bool) (w : World) (hG : TabOk w) (h : octet_Token.f a0 = some r) :
    Calls Tryz.prog 76 #[.string a0] w fun e w' => e = .returned (.bool r) ∧ Below w.heap.size w w' := by
  unfold octet_Token.f at h
  split at h
  · injection h with h; subst h; exact token_calls a0 w (by assumption) hG
  · cases h
def octet_Small.f (a0 : ByteArray) : Option ByteArray := if a0.size ≤ 140737488355328 then some (smallS a0) else none
def octet_Trim.f (a0 : ByteArray) : Option ByteArray := if a0.size ≤ 140737488355328 then some (trimS a0) else none
theorem octet_Trim.calls (a0 : ByteArray) (r : ByteArray) (w : World) (_hG : TabOk w) (h : octet_Trim.f a0 = some r) :
    Calls Tryz.prog 79 #[.string a0] w fun e w' => e = .returned (.string r) ∧ Below w.heap.size w w' := by
  unfold octet_Trim.f at h
  split at h
  · injection h with h; subst h; exact trim_calls a0 w (by assumption)
  · cases h
end Go.Proofs.YtmmbpbgcobmifaaGreatDoorH
end
section
namespace Go.Proofs.YtmmbpbgcobmifaaGreatDoorH
open Go.RowKit Go.Proofs.YtmmbpbgcobmifaaGreatDoorW.PrintWords Go.Proofs.YtmmbpbgcobmifaaGreatDoorW.PrintLast Go.Proofs.YtmmbpbgcobmifaaGreatDoorW.PrintMore
theorem wrap_up {i : Int} {n : Nat} (h0 : 0 ≤ i) (h : i < (n : Int)) (hn : n ≤ 140737488355328) : wrap64 (i + 1) = i + 1 := by
  unfold wrap64
  omega
theorem wrap_down {n : Nat} (h : 0 < n) (hn : n ≤ 140737488355328) : wrap64 ((n : Int) - 1) = (n : Int) - 1 := by
  unfold wrap64
  omega
def allFrom (p : Int → Bool) (s : ByteArray) (i : Nat) : Bool := (s.data.toList.drop i).all fun c => p c.toNat
theorem allFrom_zero (p : Int → Bool) (s : ByteArray) : allFrom p s 0 = allB p s := rfl
theorem allFrom_end (p : Int → Bool) (s : ByteArray) (i : Nat) (h : s.size ≤ i) : allFrom p s i = true := by
  unfold allFrom
  rw [List.drop_eq_nil_of_le (by rw [data_length]; exact h)]
  rfl
theorem allFrom_step (p : Int → Bool) (s : ByteArray) (i : Nat) (h : i < s.size) : allFrom p s i = (p (bt s i) && allFrom p s (i + 1)) := by
  unfold allFrom
  have h' : i < s.data.toList.length := by rw [data_length]; exact h
  rw [List.drop_eq_getElem_cons h', List.all_cons, bt_nat s i h, List.getD_eq_getElem?_getD, List.getElem?_eq_getElem h']
  rfl
theorem bytes_ext {a b : ByteArray} (h : a.data.toList = b.data.toList) : a = b := by
  cases a; cases b
  congr 1
  exact Array.toList_inj.1 h
theorem beq_toList (a b : ByteArray) : (a.toList == b.toList) = decide (a = b) := by
  rw [ByteArray.toList_eq, ByteArray.toList_eq, Bool.eq_iff_iff]
  simp only [beq_iff_eq, decide_eq_true_eq]
  exact ⟨bytes_ext, fun h => by rw [h]⟩
theorem size_eq_length (s : ByteArray) : s.size = s.data.toList.length := (data_length s).symm
theorem isEmpty_size (s : ByteArray) : s.data.toList.isEmpty = decide (s.size = 0) := by
  rw [size_eq_length]
  cases s.data.toList <;> simp
def rtrim (p : UInt8 → Bool) (l : List UInt8) : List UInt8 := (l.reverse.dropWhile p).reverse
theorem rtrim_cons (p : UInt8 → Bool) (a : UInt8) (t : List UInt8) : rtrim p (a :: t) = if (rtrim p t).isEmpty then (if p a then [] else [a]) else a :: rtrim p t := by
  unfold rtrim
  rw [List.reverse_cons, List.dropWhile_append]
  by_cases h : (t.reverse.dropWhile p).isEmpty
  · rw [if_pos h]
    have h' : t.reverse.dropWhile p = [] := by simpa using h
    rw [h']
    cases hp : p a <;> simp [List.dropWhile, hp]
  · rw [if_neg h, if_neg (by simpa using h)]
    simp
theorem rtrim_left (p : UInt8 → Bool) (l : List UInt8) : (rtrim p l).dropWhile p = rtrim p (l.dropWhile p) := by
  induction l with
  | nil => rfl
  | cons a t ih =>
    rw [rtrim_cons]
    cases hp : p a with
    | true =>
      rw [List.dropWhile_cons_of_pos hp, ← ih]
      by_cases h : (rtrim p t).isEmpty
      · have h' : rtrim p t = [] := by simpa using h
        rw [if_pos h, if_pos rfl, h']
      · rw [if_neg h, List.dropWhile_cons_of_pos hp]
    | false =>
      rw [List.dropWhile_cons_of_neg (by simp [hp]), rtrim_cons, hp]
      by_cases h : (rtrim p t).isEmpty
      · rw [if_pos h]
        exact List.dropWhile_cons_of_neg (by simp [hp])
      · rw [if_neg h]
        exact List.dropWhile_cons_of_neg (by simp [hp])
def blankU (c : UInt8) : Bool := ([32, 9] : List UInt8).contains c
theorem blankU_int (c : UInt8) : blankI (c.toNat : Int) = blankU c := by
  have : ∀ n : Fin 256, blankI (n.val : Int) = blankU (UInt8.ofNat n.val) := by decide +kernel
  have h := this ⟨c.toNat, c.toNat_lt⟩
  simpa using h
theorem trimL_eq (l : List UInt8) : trimL l = (rtrim blankU l).dropWhile blankU := rfl
theorem trimL_eq' (l : List UInt8) : trimL l = rtrim blankU (l.dropWhile blankU) := by rw [trimL_eq, rtrim_left]
theorem rtrim_snoc (p : UInt8 → Bool) (l : List UInt8) (a : UInt8) : rtrim p (l ++ [a]) = if p a then rtrim p l else l ++ [a] := by
  unfold rtrim
  rw [List.reverse_append]
  cases hp : p a <;> simp [hp]
theorem rtrim_idem (p : UInt8 → Bool) (l : List UInt8) : rtrim p (rtrim p l) = rtrim p l := by
  unfold rtrim
  rw [List.reverse_reverse]
  have : ∀ l : List UInt8, (l.dropWhile p).dropWhile p = l.dropWhile p := by
    intro l
    induction l with
    | nil => rfl
    | cons a t ih =>
      cases hp : p a with
      | true => rw [List.dropWhile_cons_of_pos hp, ih]
      | false => rw [List.dropWhile_cons_of_neg (by simp [hp]), List.dropWhile_cons_of_neg (by simp [hp])]
  rw [this]
theorem dropWhile_idem (p : UInt8 → Bool) (l : List UInt8) : (l.dropWhile p).dropWhile p = l.dropWhile p := by
  induction l with
  | nil => rfl
  | cons a t ih =>
    cases hp : p a with
    | true => rw [List.dropWhile_cons_of_pos hp, ih]
    | false => rw [List.dropWhile_cons_of_neg (by simp [hp]), List.dropWhile_cons_of_neg (by simp [hp])]
theorem trimL_idem (l : List UInt8) : trimL (trimL l) = trimL l := by
  rw [trimL_eq (trimL l), trimL_eq' l, rtrim_idem, ← rtrim_left, dropWhile_idem]
theorem trimS_idem (s : ByteArray) : trimS (trimS s) = trimS s := by
  apply bytes_ext
  show trimL (trimS s).data.toList = (trimS s).data.toList
  exact trimL_idem _
theorem trimS_data (s : ByteArray) : (trimS s).data.toList = trimL s.data.toList := rfl
theorem rtrim_length (p : UInt8 → Bool) (l : List UInt8) : (rtrim p l).length ≤ l.length := by
  unfold rtrim
  have := (List.dropWhile_sublist p (l := l.reverse)).length_le
  simpa using this
theorem trimL_length (l : List UInt8) : (trimL l).length ≤ l.length := by
  rw [trimL_eq]
  exact Nat.le_trans (List.dropWhile_sublist _).length_le (rtrim_length _ _)
theorem trimS_size (s : ByteArray) : (trimS s).size ≤ s.size := by
  rw [size_eq_length, size_eq_length, trimS_data]
  exact trimL_length _
theorem extract_list (s : ByteArray) (i j : Nat) : (s.extract i j).data.toList = (s.data.toList.drop i).take (j - i) := by
  rw [ByteArray.data_extract, Array.toList_extract, List.extract_eq_take_drop]
theorem extract_from (s : ByteArray) (i : Nat) : (s.extract i s.size).data.toList = s.data.toList.drop i := by
  rw [extract_list, List.take_of_length_le]
  rw [List.length_drop, data_length]
  exact Nat.le_refl _
theorem extract_to (s : ByteArray) (j : Nat) : (s.extract 0 j).data.toList = s.data.toList.take j := by
  rw [extract_list, List.drop_zero, Nat.sub_zero]
theorem first_of (s : ByteArray) (h : 0 < s.size) : ∃ c t, s.data.toList = c :: t ∧ bt s 0 = (c.toNat : Int) := by
  have hb := bt_nat s 0 h
  cases hl : s.data.toList with
  | nil => rw [size_eq_length, hl] at h; simp at h
  | cons c t => exact ⟨c, t, rfl, by rw [hl] at hb; exact hb⟩
theorem last_of (s : ByteArray) (h : 0 < s.size) : ∃ t c, s.data.toList = t ++ [c] ∧ bt s ((s.size : Int) - 1) = (c.toNat : Int) := by
  have hne : s.data.toList ≠ [] := by intro e; rw [size_eq_length, e] at h; simp at h
  have hb := bt_nat s (s.size - 1) (by omega)
  refine ⟨s.data.toList.dropLast, s.data.toList.getLast hne, (List.dropLast_concat_getLast hne).symm, ?_⟩
  rw [show ((s.size : Int) - 1) = ((s.size - 1 : Nat) : Int) by omega, hb, List.getLast_eq_getElem, List.getD_eq_getElem?_getD, List.getElem?_eq_getElem (by rw [data_length]; omega)]
  simp only [Option.getD_some, data_length]
end Go.Proofs.YtmmbpbgcobmifaaGreatDoorH
end
section
namespace Go.Proofs.YtmmbpbgcobmifaaGreatDoorH
open Go.RowKit Go.Shelf Go.Proofs.YtmmbpbgcobmifaaGreatDoorW.PrintWords Go.Proofs.YtmmbpbgcobmifaaGreatDoorW.PrintLast Go.Proofs.YtmmbpbgcobmifaaGreatDoorW.PrintMore
attribute [local go_sem] Oper.semAt_some
def linesOf : Nat → ByteArray → Nat → List (Nat × ByteArray)
  | 0, _, _ => []
  | k + 1, s, i =>
    let c := Lib.cut (s.data.toList.drop i) [13, 10]
    if c.2.2 then (i, ⟨c.1.toArray⟩) :: (if c.1.isEmpty then [] else linesOf k s (i + c.1.length + 2)) else []
theorem linesOf_succ (k : Nat) (s : ByteArray) (i : Nat) : linesOf (k + 1) s i = if (Lib.cut (s.data.toList.drop i) [13, 10]).2.2 = true then (i, ⟨(Lib.cut (s.data.toList.drop i) [13, 10]).1.toArray⟩) :: (if (Lib.cut (s.data.toList.drop i) [13, 10]).1.isEmpty = true then [] else linesOf k s (i + (Lib.cut (s.data.toList.drop i) [13, 10]).1.length + 2)) else [] := rfl
theorem cut_size (t : List UInt8) (h : (Lib.cut t [13, 10]).2.2 = true) : (Lib.cut t [13, 10]).1.length + 2 ≤ t.length := by
  unfold Lib.cut at h ⊢
  split at h
  · rename_i h0
    have h1 := Lib.index_room t [13, 10] h0
    rw [if_pos h0]
    simp only [List.length_take]
    simp at h1
    omega
  · cases h
theorem linesOf_length : ∀ (k : Nat) (s : ByteArray) (i : Nat), (linesOf k s i).length ≤ k
  | 0, _, _ => Nat.le_refl _
  | k + 1, s, i => by
    rw [linesOf_succ]
    split
    · split
      · simp
      · have := linesOf_length k s (i + (Lib.cut (s.data.toList.drop i) [13, 10]).1.length + 2)
        simp only [List.length_cons]; omega
    · simp
theorem linesOf_size : ∀ (k : Nat) (s : ByteArray) (i : Nat), ∀ y ∈ linesOf k s i, y.2.size ≤ s.size
  | 0, _, _, y, h => absurd h List.not_mem_nil
  | k + 1, s, i, y, h => by
    rw [linesOf_succ] at h
    split at h
    · rename_i hc
      rcases List.mem_cons.1 h with rfl | h
      · have h1 := cut_size _ hc
        rw [List.length_drop, ← size_eq_length] at h1
        show (Lib.cut (s.data.toList.drop i) [13, 10]).1.length ≤ _
        omega
      · split at h
        · exact absurd h List.not_mem_nil
        · exact linesOf_size k s _ y h
    · exact absurd h List.not_mem_nil
theorem lines_calls (s : ByteArray) (w : World) :
    Calls Tryz.prog 63 #[.string s] w fun e w' => e = .returned (.func (.func 77) #[] #[.pointer (some ⟨w.heap.size, 0, none⟩)]) ∧ w' = w.alloc (.cells #[.string s] 9) := by
  go_enter Tryz.func63, Tryz.ntmps63
  go_wp2
  go_ret
  exact ⟨rfl, rfl⟩
def encL (x : Nat × ByteArray) : Array Value := #[.int .i64 (x.1 : Int), .string x.2]
set_option maxRecDepth 100000 in
set_option maxHeartbeats 2000000 in
theorem lines_own (n : Nat) (hn : 1 ≤ n) (Bs : Nat) (s : ByteArray) (hs : s.size < 4294967281) (w : World) (hG : TabOk w) (W0 : World) (hw0 : Lies (fun k => k < w.heap.size) w W0) (hc0 : Boxed W0 Bs 9 (.string s)) :
    SeqO Fence.wide n Tryz.prog 77 #[.pointer (some ⟨Bs, 0, none⟩)] encL (fun k => k < w.heap.size ∨ k = Bs) (fun _ => False) (fun ys => ys = linesOf (s.size + 1) s 0) (fun pre => pre <+: linesOf (s.size + 1) s 0) W0 := by
  intro l J Jx g0 W hW hJ hJx hg0 hY h0
  have hw1 : Lies (fun k => k < w.heap.size) w W := hw0.trans (Lies.below hW)
  have hc : Boxed W Bs 9 (.string s) := (hW.block _ hc0.lt).trans hc0
  have hBs := hc.lt
  have hwsz := hw1.size
  clear hW hc0 hw0
  refine callsIn_of_wp Tryz.func77 rfl trivial ?_ rfl
  simp only [Tryz.ntmps77, List.size_toArray, List.length_cons, List.length_nil, Nat.reduceAdd, Nat.reduceSub, Array.replicate_succ, Array.replicate_zero, List.push_toArray, List.append_toArray, List.nil_append, List.cons_append]
  gi_wp2
  gi_loopw [3] (fun v3 wr => ∃ (i k : Nat) (pre : List (Nat × ByteArray)) (g : Option Nat), v3 = .int .i64 i ∧ i ≤ s.size ∧ s.size - i < k ∧ pre.length ≤ i ∧ Aside0 (linesOf (s.size + 1) s 0 = pre ++ linesOf k s i) ∧ Aside0 (J pre g wr) ∧ Aside0 (∀ q, g = some q → ¬ (q < w.heap.size ∨ q = Bs)) ∧ Aside0 (Lies (fun k => k < w.heap.size ∨ k = Bs) W wr))
    (fun v3 _ => s.size - (intOf v3).toNat)
  case atStart => exact ⟨0, s.size + 1, [], g0, rfl, Nat.zero_le _, by omega, Nat.le_refl _, ⟨rfl⟩, ⟨h0⟩, ⟨fun q e => (hg0 q e).1⟩, ⟨Lies.refl _ _⟩⟩
  case round =>
    obtain ⟨i, k, pre, g, rfl, hi, hk, hp, hE, hJs, hgq, hnx⟩ := hrel
    have hcx := (hnx.out.box (.inr rfl) hc).cell
    obtain ⟨m, hm⟩ := (hG.lies hw1 (fun k hk => .inl hk) hnx.out).mx
    have HC := Aside0.mk (Tryz.strings_Cut (s.extract i s.size) (⟨#[13, 10]⟩ : ByteArray) m wr (by
      have := extract_from s i
      have h2 := congrArg List.length this
      rw [← size_eq_length, List.length_drop, ← size_eq_length] at h2
      omega) hm)
    obtain ⟨k, rfl⟩ : ∃ q, k = q + 1 := ⟨k - 1, by omega⟩
    rw [extract_from, show (⟨#[13, 10]⟩ : ByteArray).data.toList = [13, 10] from rfl] at HC
    have hcs := cut_size (s.data.toList.drop i)
    have HE := Aside0.mk hE.out
    rw [linesOf_succ k s i] at HE
    rw [List.length_drop, ← size_eq_length] at hcs
    clear hE hm
    obtain ⟨c, hcut⟩ : ∃ c, Lib.cut (s.data.toList.drop i) [13, 10] = c := ⟨_, rfl⟩
    rw [hcut] at HC hcs HE
    clear hcut
    obtain ⟨a, b, ok⟩ := c
    dsimp only at HC HE hcs
    have hdr : ∀ q : Nat, wr.grownBy (wr.drewN q) none := fun q => ⟨rfl, rfl, rfl, Nat.le_refl _, fun _ _ _ => rfl⟩
    have HDR := Aside0.mk hdr
    clear hdr
    cases ok with
    | false =>
      rw [if_neg (by simp), List.append_nil] at HE
      gi_wp2
      refine ⟨trivial, ?_⟩
      refine (callsIn_wide.2 HC.out).mono ?_
      rintro e w1 ⟨rfl, q, rfl⟩
      have hJ1 := Aside0.mk (hJ.step hJs.out (HDR.out q))
      gi_wp2
      refine ⟨fun _ h => (by cases h), ?_⟩
      gi_wp2
      refine bodyPost_ret (results_none rfl _ _ _) rfl ?_
      exact ⟨⟨_, rfl⟩, .inl ⟨_, g, rfl, by rw [HE.out]; exact hJ1.out⟩⟩
    | true =>
      rw [if_pos rfl] at HE
      gi_wp2
      refine ⟨trivial, ?_⟩
      refine (callsIn_wide.2 HC.out).mono ?_
      rintro e w1 ⟨rfl, q, rfl⟩
      have hJ1 : J pre g (wr.drewN q) := hJ.step hJs.out (HDR.out q)
      have HL := Aside0.mk (hnx.out.trans (Lies.grown (HDR.out q) (fun _ e => by cases e)))
      have HP := Aside0.mk (show (pre ++ [((i, ⟨a.toArray⟩) : Nat × ByteArray)]) <+: linesOf (s.size + 1) s 0 by rw [HE.out]; exact ⟨_, by rw [List.append_assoc]; rfl⟩)
      obtain ⟨fn, tmps, assign, body, hy, hR⟩ := hY (n - 1) pre (i, ⟨a.toArray⟩) g (wr.drewN q) hJ1 HP.out
      dsimp only [encL] at hy
      have HR := Aside0.mk hR
      have HLS := Aside0.mk (fun (g' : Option Nat) (W3 : World) (h : Spares (fun k => W.heap.size ≤ k ∨ (k < w.heap.size ∨ k = Bs)) g g' (wr.drewN q) W3) =>
        show Lies (fun k => k < w.heap.size ∨ k = Bs) W W3 from HL.out.trans (h.lies (fun k hk _ => ⟨.inr hk, fun e => hgq.out k e.symm hk⟩)))
      have HGS := Aside0.mk (fun (g' : Option Nat) (W3 : World) (h : Spares (fun k => W.heap.size ≤ k ∨ (k < w.heap.size ∨ k = Bs)) g g' (wr.drewN q) W3) =>
        show ∀ q, g' = some q → ¬ (q < w.heap.size ∨ q = Bs) from h.not (fun k hk => by have := HL.out.size; rcases hk with hk | hk <;> omega) hgq.out)
      have e0 : (⟨a.toArray⟩ : ByteArray).size = a.length := rfl
      have hcs := hcs trivial
      clear hJ1 hR HL hgq
      cases a with
      | nil =>
        have HE2 := Aside0.mk (show linesOf (s.size + 1) s 0 = pre ++ [((i, ⟨([] : List UInt8).toArray⟩) : Nat × ByteArray)] by rw [HE.out]; rfl)
        gi_wp2
        refine HR.out.mono ?_
        rintro e W3 ⟨g', hsp, (⟨rfl, hJ3⟩ | ⟨rfl, hJx3⟩)⟩
        · gi_wp2
          refine bodyPost_ret (results_none rfl _ _ _) rfl ?_
          exact ⟨⟨_, rfl⟩, .inl ⟨_, g', rfl, by rw [HE2.out]; exact hJ3⟩⟩
        · gi_wp2
          refine bodyPost_ret (results_none rfl _ _ _) rfl ?_
          exact ⟨⟨_, rfl⟩, .inr ⟨_, g', HP.out, hJx3⟩⟩
      | cons c a =>
        have HE2 := Aside0.mk (show linesOf (s.size + 1) s 0 = (pre ++ [((i, ⟨(c :: a).toArray⟩) : Nat × ByteArray)]) ++ linesOf k s (i + (a.length + 3)) by rw [HE.out, List.append_assoc]; rfl)
        have hcs2 : a.length + 3 ≤ s.size - i := by simp only [List.length_cons] at hcs; omega
        have hne : ((⟨(c :: a).toArray⟩ : ByteArray).toList == ([] : List UInt8)) = false := by rw [ByteArray.toList_eq]; rfl
        have hne2 : ((⟨(c :: a).toArray⟩ : ByteArray).toList = ([] : List UInt8)) = False := by rw [ByteArray.toList_eq]; simp
        gi_wp2
        refine HR.out.mono ?_
        rintro e W3 ⟨g', hsp, (⟨rfl, hJ3⟩ | ⟨rfl, hJx3⟩)⟩
        · have HJ3 := Aside0.mk hJ3
          have HS3 := Aside0.mk hsp
          clear hJ3 hsp
          have hcx3 := ((HLS.out g' W3 HS3.out).box (.inr rfl) hc).cell
          gi_wp2
          go_roundw
          case rel => exact ⟨i + (a.length + 3), k, _, g', congrArg (Value.int IntKind.i64) (by omega), by omega, by omega, by rw [List.length_append]; simp only [List.length_cons, List.length_nil]; omega, HE2, HJ3, ⟨HGS.out g' W3 HS3.out⟩, ⟨HLS.out g' W3 HS3.out⟩⟩
          case measure => simp [intOf]; omega
        · gi_wp2
          refine bodyPost_ret (results_none rfl _ _ _) rfl ?_
          exact ⟨⟨_, rfl⟩, .inr ⟨_, g', HP.out, hJx3⟩⟩
end Go.Proofs.YtmmbpbgcobmifaaGreatDoorH
end
section
namespace Go.Proofs.YtmmbpbgcobmifaaGreatDoorH
open Go
theorem stepR_scope {P : Program} {b : Frame} {a : Act} {k : List Item} {cs : List Frame} {w : World} {c : Code} : step P (lone (b.atR a (.code (.scope c) :: k)) cs w) = .next (lone (b.atR a (.code c :: .inScope c :: k)) cs w) :=
  step_lone_go (by simp [stepG, stepG.exec, Frame.atR])
theorem stepR_inScope {P : Program} {b : Frame} {a : Act} {k : List Item} {cs : List Frame} {w : World} {c : Code} : step P (lone (b.atR a (.inScope c :: k)) cs w) = .next (lone (b.atR a k) cs w) :=
  step_lone_go (by simp [stepG, stepG.exec, Frame.atR])
theorem wpIn_scope_straight {F : Fence} {n : Nat} {P : Program} {Q : Exit → Act → World → Prop} {a : Act} {w : World} {c : Code} (h : c.wpIn F n P (Exit.noGoto Q) a w) : (Code.scope c).wpIn F n P Q a w := by
  intro b k cs hro hb hr
  have h0 : (lone (b.atR a (.code (.scope c) :: k)) cs w).fenced P F := fenced_calm hb hr rfl
  obtain ⟨e, a₁, w₁, hq, harr⟩ := h b (.inScope c :: k) cs hro hb hr
  cases e with
  | normal => exact ⟨.normal, a₁, w₁, hq, .head h0 stepR_scope (StepsIn.trans harr (.one (fenced_calm hb hr rfl) stepR_inScope))⟩
  | exit id =>
    have hx : exitTo id (.inScope c :: k) = exitTo id k := by simp [exitTo]
    exact ⟨.exit id, a₁, w₁, hq, fun k' hk => .head h0 stepR_scope (harr.1 k' (by rw [hx]; exact hk)),
      fun hr' hk => let ⟨k₁, h1, h2⟩ := harr.2 hr' (by rw [hx]; exact hk); ⟨k₁, h1, .head h0 stepR_scope h2⟩⟩
  | goto l => exact hq.elim
  | ret => exact ⟨_, a₁, w₁, hq, .of_steps (.one h0 stepR_scope) (show ArrivesIn _ _ _ _ k _ _ _ _ from harr)⟩
  | panic ch => exact ⟨_, a₁, w₁, hq, .of_steps (.one h0 stepR_scope) (show ArrivesIn _ _ _ _ k _ _ _ _ from harr)⟩
  | outgrown => exact ⟨_, a₁, w₁, hq, .of_steps (.one h0 stepR_scope) (show ArrivesIn _ _ _ _ k _ _ _ _ from harr)⟩
end Go.Proofs.YtmmbpbgcobmifaaGreatDoorH
end
section
namespace Go.Proofs.YtmmbpbgcobmifaaGreatDoorH
open Go Go.RowKit Go.Proofs.YtmmbpbgcobmifaaGreatDoorW.PrintWords Go.Proofs.YtmmbpbgcobmifaaGreatDoorW.PrintLast Go.Proofs.YtmmbpbgcobmifaaGreatDoorW.PrintMore
def Halted (p : Prop) : Prop := p
theorem halt {p : Prop} (h : Halted p) : p := h
theorem unhalt {p : Prop} (h : p) : Halted p := h
theorem in_append {F : Fence} {n : Nat} {P : Program} {ops : Array Oper} {rest : List Oper} {o : Oper} {a : Act} {Q : Exit → Act → World → Prop} {W : World} (base : Nat) (hgd : o.guard = none) (s x : Operand) (t e : TypeId) (z : Value) (size bytes : Nat)
    (ho : o.op = .call { callee := .builtin .append, args := #[s, x], argTypes := #[t, t] })
    (ht : P.underlying t = some (.slice e)) (hinfo : (P.info? e).map (fun i => (i.zero, i.size, i.bytes)) = some (some z, size, bytes)) (hz : z.cells.size = size) (hs0 : 0 < size) (hb0 : 0 < bytes)
    (v : Value) (k : Nat) (xs ys : List Value) (hs : a.eval s = v) (hx : a.eval x = .slice (some ⟨W.heap.size, 0, none⟩) 1 1) (hys : ys.length = size) (h1 : ∀ u ∈ ys, u.oneCell' = true)
    (HO : W.ownsRow base e size v k xs) (hbase : base ≤ W.heap.size) (hl : (k + 1) * bytes ≤ 140737488355328)
    (h : ∀ v1 w1, w1.ownsRow base e size v1 (k + 1) (xs ++ ys) → W.grownBy w1 v.ownBlock → (v1.ownBlock = v.ownBlock ∨ ∃ b, v1.ownBlock = some b ∧ W.heap.size ≤ b) → wpListIn F n P ops Q rest (a.put o.dst v1) w1) :
    wpListIn F n P ops Q (o :: rest) a (W.alloc (.cells ys.toArray e)) := by
  obtain ⟨i0, hi, hzz⟩ := Option.map_eq_some_iff.1 hinfo
  simp only [Prod.mk.injEq] at hzz
  obtain ⟨hz0, hz1, hz2⟩ := hzz
  have hlen : k + 1 ≤ 140737488355328 := Nat.le_trans (Nat.le_mul_of_pos_right _ hb0) hl
  refine wpListIn_plain hgd fun K hK' => ?_
  obtain ⟨v1, w1, hr, hown, hg, _, hat⟩ := run_append_own_at (P := P) (W.alloc (.cells ys.toArray e)) base t o.type e i0 z size bytes ht hi hz0 hz1 hz2 hz hs0 v k xs (HO.alloc _) ⟨W.heap.size, 0, none⟩ 1 1 ys (by rw [hys]; simp)
    (by simpa using World.news_of_block (cs := ys.toArray) (t := e) (fr := (0, 0)) (heap_alloc_new W (.cells ys.toArray e))) h1 (by simp only [maxLen]; omega) hl (by simp; omega)
  unfold Oper.wpIn
  refine ⟨?_, ?_⟩
  · simp [Oper.about, ho, resolve, Target.leads, Sem.run_pure]
  · rw [Oper.semAt_plain F _ _ (by rw [ho]; intro c hc'; cases hc')]
    simp [execOp, ho, resolve, invoke, builtin, hs, hx, hr, Result.andThen]
    refine hK' _ _ (h v1 w1 hown (World.grownBy.trans (World.grownBy_alloc W _ _) hg) ?_)
    rcases hat with hat | hat
    · exact .inl hat
    · exact .inr ⟨_, hat, by simp⟩
theorem row_of_owns {α : Type} (d : Kd α) (enc : α → List Value) {e : Nat} {w : World} {base : Nat} {v : Value} {xs : List α} (hl : ∀ x, (enc x).length = d.sz) (hM : ∀ ok x, d.M w base ok x (enc x))
    (h : w.ownsRow base e d.sz v xs.length (xs.flatMap enc)) : d.R e w base (fun _ => True) v xs := by
  refine ⟨fun _ _ => trivial, xs.flatMap enc, h, ?_⟩
  clear h
  have key : ∀ (l r : List α) (inner : List Value), Reps (d.M w base (fun k => True ∧ some k ≠ v.ownBlock)) d.sz l inner → Reps (d.M w base (fun k => True ∧ some k ≠ v.ownBlock)) d.sz (l ++ r) (inner ++ r.flatMap enc) := by
    intro l r
    induction r generalizing l with
    | nil => intro inner h; simpa using h
    | cons x r ih =>
      intro inner h
      have := ih (l ++ [x]) (inner ++ enc x) (h.snoc (hM _ x) (hl x))
      simpa using this
  have := key [] xs [] (Reps.none _ _)
  simpa using this
theorem owns_slice {w : World} {base : Nat} {e : TypeId} {size : Nat} {v : Value} {k : Nat} {xs : List Value} (h : w.ownsRow base e size v k xs) : ∃ (a : Option Addr) (n c : Nat), v = .slice a n c := by
  rcases h.2 with ⟨rfl, _⟩ | ⟨g, cap, cur, rfl, _⟩
  · exact ⟨_, _, _, rfl⟩
  · exact ⟨_, _, _, rfl⟩
theorem closed {W : World} {n₀ b D : Nat} {t e : TypeId} {size : Nat} {v : Value} {k : Nat} {xs : List Value} (hv : Boxed W b t v) (hte : t ≠ e) (hrow : W.ownsRow n₀ e size v k xs) (hb : n₀ ≤ b) (hD : n₀ ≤ D) (hK : W.heap[D]? = some (.deferred (some []))) :
    (W.setCell ⟨b, 0, none⟩ v).heap[D]? = some (.deferred (some [])) ∧ Boxed ((W.setCell ⟨b, 0, none⟩ v).putObj D (.deferred none)) b t v ∧ ((W.setCell ⟨b, 0, none⟩ v).putObj D (.deferred none)).ownsRow n₀ e size v k xs ∧ Below n₀ W ((W.setCell ⟨b, 0, none⟩ v).putObj D (.deferred none)) := by
  have hne : D ≠ b := by
    rintro rfl
    have := hK.symm.trans hv
    cases this
  have h1 : (W.setCell ⟨b, 0, none⟩ v).heap[D]? = some (.deferred (some [])) := (Below.heap_setCell W _ _ D hne).trans hK
  have hlt := (Array.getElem?_eq_some_iff.1 hK).1
  refine ⟨h1, (hv.set v).kept (grownBy_putObj' _ _ _) (fun h => hne (by cases h; rfl)), ownsRow_putObj (hrow.kept (grownBy_setCell' W b v) (.inr (hv.not_row hte hrow).symm)) _ h1 rfl, ?_⟩
  exact ((Below.refl n₀ W).setCell (p := ⟨b, 0, none⟩) hb v).grown (grownBy_putObj' _ _ _) (Nat.le_trans hD (Nat.le_trans (Nat.le_of_lt hlt) (grownBy_setCell' W b v).size)) (fun j ej => by cases ej; exact hD)
end Go.Proofs.YtmmbpbgcobmifaaGreatDoorH
end
section
namespace Go.Proofs.YtmmbpbgcobmifaaGreatDoorH
open Go.RowKit Go.Proofs.YtmmbpbgcobmifaaGreatDoorW.PrintWords Go.Proofs.YtmmbpbgcobmifaaGreatDoorW.PrintLast Go.Proofs.YtmmbpbgcobmifaaGreatDoorW.PrintMore
theorem take_one {α : Type} (l : List α) (d : α) (k : Nat) (h : k < l.length) : l.take (k + 1) = l.take k ++ [l.getD k d] := by
  rw [List.take_succ_eq_append_getElem h]
  simp [List.getD_eq_getElem?_getD, h]
end Go.Proofs.YtmmbpbgcobmifaaGreatDoorH
end
